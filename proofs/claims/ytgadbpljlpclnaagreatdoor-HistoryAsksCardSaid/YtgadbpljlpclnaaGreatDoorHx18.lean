import Derived.Test.YtgadbpljlpclnaaGreatDoorHx0
import Derived.Test.YtgadbpljlpclnaaGreatDoorHx8
import Derived.Test.YtgadbpljlpclnaaGreatDoorHx16
import Derived.Test.YtgadbpljlpclnaaGreatDoorHx17
namespace Go.Proofs.YtgadbpljlpclnaaGreatDoor.H
open Go.RowKit Go.Proofs.YtgadbpljlpclnaaGreatDoorW.PrintWords Go.Proofs.YtgadbpljlpclnaaGreatDoorW.PrintLast Go.Proofs.YtgadbpljlpclnaaGreatDoorW.PrintMore
set_option maxHeartbeats 4000000
set_option maxRecDepth 100000
attribute [local go_sem] max2_int min2_int max_two min_two max_three min_three max_four min_four
set_option linter.unusedVariables false
set_option linter.unusedSimpArgs false

/-! ### r26_check: function 38 -/
mutual
def r26_check.j0 : Nat → List (S28) → Bool → Int → List Int → List (S53) → Int → Int → Option (Int)
|0,_,_,_,_,_,_,_ => none
|k + 1,x0,af,aa,ab,ac,ad,ae => if af = true then (some 4) else (r26_check.l0 k x0 0 aa ab ac ad ae)
def r26_check.l0 : Nat → List (S28) → Int → Int → List Int → List (S53) → Int → Int → Option (Int)
|0,_,_,_,_,_,_,_ => none
|k + 1,x0,x5,ab,aa,ac,ad,ae => if x5 < (aa.length : Int) then (if 0 ≤ x5 then ((r26_Get.f k x0 (rd aa x5)).bind fun af => (if af.2.2.2.2.2 = true then (r26_check.l0 k x0 (wrap64 (x5 + 1)) ab aa ac ad ae) else (some 8))) else (none)) else (if (aa.length : Int) = 2 then (if 0 < (aa.length : Int) then (if 1 < (aa.length : Int) then (if (rd aa 0) = (rd aa 1) then (some 7) else ((r26_after.f k x0 ab aa ac ad ae).bind fun ag => (some ag.2))) else (none)) else (none)) else ((r26_after.f k x0 ab aa ac ad ae).bind fun ah => (some ah.2)))
end
def r26_check.f (k : Nat) (l0 : List (S28)) (ac : Int) (aa : List Int) (ab : List (S53)) (ad : Int) (ae : Int) : Option (Int) := (r26_numbers.f k l0 ac aa ab ad ae).bind fun af => (if af = true then (if (aa.length : Int) > 2 then (r26_check.j0 k l0 true ac aa ab ad ae) else (r26_check.j0 k l0 (decide ((ab.length : Int) > 16)) ac aa ab ad ae)) else (some 2))
theorem r26_check.mono_l : ∀ k, (∀ y0 y1 y2 y3 y4 y5 y6, LeO (r26_check.j0 k y0 y1 y2 y3 y4 y5 y6) (r26_check.j0 (k + 1) y0 y1 y2 y3 y4 y5 y6)) ∧ (∀ y0 y1 y2 y3 y4 y5 y6, LeO (r26_check.l0 k y0 y1 y2 y3 y4 y5 y6) (r26_check.l0 (k + 1) y0 y1 y2 y3 y4 y5 y6))
|0 => ⟨fun _ _ _ _ _ _ _ r h => by simp [r26_check.j0] at h,fun _ _ _ _ _ _ _ r h => by simp [r26_check.l0] at h⟩
|k + 1 => by
  obtain ⟨ih0,ih1⟩ := r26_check.mono_l k
  refine ⟨?_,?_⟩
  ·intro y0 y1 y2 y3 y4 y5 y6
   unfold r26_check.j0
   repeat' (with_reducible first|exact ih1 _ _ _ _ _ _ _|exact LeO.refl _|exact LeO.none _|refine LeO.ite ?_ ?_|refine LeO.bind ?_ (fun _ => ?_))
  ·intro y0 y1 y2 y3 y4 y5 y6
   unfold r26_check.l0
   repeat' (with_reducible first|exact ih1 _ _ _ _ _ _ _|exact r26_Get.mono _ _ _|exact r26_after.mono _ _ _ _ _ _ _|exact LeO.refl _|exact LeO.none _|refine LeO.ite ?_ ?_|refine LeO.bind ?_ (fun _ => ?_))
theorem r26_check.mono : ∀ a0 a1 a2 a3 a4 a5 k, LeO (r26_check.f k a0 a1 a2 a3 a4 a5) (r26_check.f (k + 1) a0 a1 a2 a3 a4 a5) := by
 intro a0 a1 a2 a3 a4 a5 k
 obtain ⟨ih0,ih1⟩ := r26_check.mono_l k
 unfold r26_check.f
 repeat' (with_reducible first|exact ih0 _ _ _ _ _ _ _|exact ih1 _ _ _ _ _ _ _|exact r26_Get.mono _ _ _|exact r26_after.mono _ _ _ _ _ _ _|exact r26_numbers.mono _ _ _ _ _ _ _|exact LeO.refl _|exact LeO.none _|refine LeO.ite ?_ ?_|refine LeO.bind ?_ (fun _ => ?_))
theorem r26_check.calls (k : Nat) (A0 : Option Addr) (c0 : Nat) (l0 : List (S28)) (ai : Int) (aN : Option Addr) (ax : Nat) (ab : List Int) (ay : Option Addr) (az : Nat) (ag : List (S53)) (aj : Int) (ak : Int) (r : Int) (w : World) (cP : Kd.C k28 w A0 l0.length l0) (cQ : l0.length ≤ c0) (b4 : Kd.C (Kd.int .i64) w aN ab.length ab) (b5 : ab.length ≤ ax) (b6 : Kd.C k53 w ay ag.length ag) (b7 : ag.length ≤ az) (h : r26_check.f k l0 ai ab ag aj ak = some r) :
  Calls Tryz.prog 38 #[.slice A0 l0.length c0,.agg #[.int .i64 ai,.slice aN ab.length ax,.slice ay ag.length az,.int .i64 aj,.int .i64 ak]] w fun e w' => e = .returned (.int .i64 r) ∧ Below w.heap.size w w' := by
 have dj := Tryz.underlying28
 have aO := aK cP
 have aP := aK cQ
 clear cP cQ
 have au := aK b4
 have aB := aK b5
 clear b4 b5
 have aC := aK b6
 have aD := aK b7
 clear b6 b7
 have HB := aK (Below.refl w.heap.size w)
 unfold r26_check.f at h
 have H := h
 clear h
 replace H := Option.bind_eq_some_iff.mp H
 obtain ⟨cK,cR,H⟩ := H
 have A3 := aK cR
 clear cR
 by_cases c4 : cK = true
 ·subst c4
  rw [if_pos rfl] at H
  have cL := aK H
  clear H
  go_enter Tryz.func38,Tryz.ntmps38
  go_upto_region 3 with (first|((with_reducible refine gate_dst (N := 3) rfl ?_);(try (refine gate_guard (by rfl) ?_;dsimp only));refine box_event ?hg (N := 3) ?hd (cs := #[.int .i64 ai,.slice aN ab.length ax,.slice ay ag.length az,.int .i64 aj,.int .i64 ak]) (t := 28) ?hr ?_;(case hd => rfl);(case hg => rfl);(case hr => first|(go_simp;done)|(go_simp;rfl));intro ac hg w6 hbox hb;have aa := aK (hbox);have al := aK ((by rw [hg];exact (below_size (bM HB.out)) : w.heap.size ≤ ac));have aQ := Ge.mk al.out;have aF := aK ((by rw [hg];exact (below_size (bM HB.out)) : w.heap.size ≤ ac));have aR := Ge.mk aF.out;replace HB := aK (below_step (bM HB.out) hb);clear hb hbox hg;obtain ⟨aV,aW,aX,aY,aZ,a0,a1,a2,a3,a4⟩ := bk5_ aa.out)|(go_at_call 58;(with_reducible refine (r26_numbers.calls k _ _ l0 ai _ _ ab _ _ ag aj ak true _ ?ae ?am ?an ?ao ?ap ?aG A3.out).mono ?_);(case ae => exact cM (Kd.C_below aO.out HB.out));(case am => exact aP.out);(case an => exact cM (Kd.C_below au.out HB.out));(case ao => exact aB.out);(case ap => exact cM (Kd.C_below aC.out HB.out));(case aG => exact aD.out);rintro e w8 ⟨rfl,hb⟩;replace aa := aK (blk_below (kM aa.out) hb);replace HB := aK (below_step (bG HB.out) hb);(try clear hb)))
  repeat (go_quiet (first|((with_reducible refine gate_dst (N := 3) rfl ?_);(try (refine gate_guard (by rfl) ?_;dsimp only));refine box_event ?hg (N := 3) ?hd (cs := #[.int .i64 ai,.slice aN ab.length ax,.slice ay ag.length az,.int .i64 aj,.int .i64 ak]) (t := 28) ?hr ?_;(case hd => rfl);(case hg => rfl);(case hr => first|(go_simp;done)|(go_simp;rfl));intro ac hg w6 hbox hb;have aa := aK (hbox);have al := aK ((by rw [hg];exact (below_size (bM HB.out)) : w.heap.size ≤ ac));have aQ := Ge.mk al.out;have aF := aK ((by rw [hg];exact (below_size (bM HB.out)) : w.heap.size ≤ ac));have aR := Ge.mk aF.out;replace HB := aK (below_step (bM HB.out) hb);clear hb hbox hg;obtain ⟨aV,aW,aX,aY,aZ,a0,a1,a2,a3,a4⟩ := bk5_ aa.out)|(go_at_call 58;(with_reducible refine (r26_numbers.calls k _ _ l0 ai _ _ ab _ _ ag aj ak true _ ?ae ?am ?an ?ao ?ap ?aG A3.out).mono ?_);(case ae => exact cM (Kd.C_below aO.out HB.out));(case am => exact aP.out);(case an => exact cM (Kd.C_below au.out HB.out));(case ao => exact aB.out);(case ap => exact cM (Kd.C_below aC.out HB.out));(case aG => exact aD.out);rintro e w8 ⟨rfl,hb⟩;replace aa := aK (blk_below (kM aa.out) hb);replace HB := aK (below_step (bG HB.out) hb);(try clear hb)));go_upto_region 3 with (first|((with_reducible refine gate_dst (N := 3) rfl ?_);(try (refine gate_guard (by rfl) ?_;dsimp only));refine box_event ?hg (N := 3) ?hd (cs := #[.int .i64 ai,.slice aN ab.length ax,.slice ay ag.length az,.int .i64 aj,.int .i64 ak]) (t := 28) ?hr ?_;(case hd => rfl);(case hg => rfl);(case hr => first|(go_simp;done)|(go_simp;rfl));intro ac hg w6 hbox hb;have aa := aK (hbox);have al := aK ((by rw [hg];exact (below_size (bM HB.out)) : w.heap.size ≤ ac));have aQ := Ge.mk al.out;have aF := aK ((by rw [hg];exact (below_size (bM HB.out)) : w.heap.size ≤ ac));have aR := Ge.mk aF.out;replace HB := aK (below_step (bM HB.out) hb);clear hb hbox hg;obtain ⟨aV,aW,aX,aY,aZ,a0,a1,a2,a3,a4⟩ := bk5_ aa.out)|(go_at_call 58;(with_reducible refine (r26_numbers.calls k _ _ l0 ai _ _ ab _ _ ag aj ak true _ ?ae ?am ?an ?ao ?ap ?aG A3.out).mono ?_);(case ae => exact cM (Kd.C_below aO.out HB.out));(case am => exact aP.out);(case an => exact cM (Kd.C_below au.out HB.out));(case ao => exact aB.out);(case ap => exact cM (Kd.C_below aC.out HB.out));(case aG => exact aD.out);rintro e w8 ⟨rfl,hb⟩;replace aa := aK (blk_below (kM aa.out) hb);replace HB := aK (below_step (bG HB.out) hb);(try clear hb))))
  (try simp only [Act.put,z1_,z2_,z3_])
  go_cut [23] (fun dk wc => ∃ (kq : Nat) (bb : Bool),dk = .bool bb ∧ Aside0 (r26_check.j0 kq l0 bb ai ab ag aj ak = some r) ∧ Aside0 (kq ≤ k) ∧ Aside0 (wc.heap[ac]? = some (.cells #[.int .i64 ai,(.slice aN ab.length ax),(.slice ay ag.length az),.int .i64 aj,.int .i64 ak] 28 (0,0))) ∧ Aside0 (Below w.heap.size w wc))
  case first =>
   have H := cL.out
   clear cL
   by_cases c9 : (ab.length : Int) > 2
   ·rw [if_pos c9] at H
    have bS := decide_eq_true c9
    have cc : decide (2 < ab.length) = true := decide_eq_true (by omega)
    clear c9
    (first|rw [bS]|(simp only [i64_w,i32_w];rw [bS])|rw [cc]|skip)
    have H' := aK H
    clear H
    obtain ⟨_,_,_,_,_,_,_,_,_,_⟩ := bk5_ aa.out
    go_wp2
    repeat (go_quiet (fail);try go_wp2)
    go_meet
    case rel => exact ⟨_,(true),(by first|rfl|(simp;done)|(simp [*];done)),H',⟨by first|omega|exact Nat.le_refl _⟩,⟨kM aa.out⟩,⟨bG HB.out⟩⟩
   ·rw [if_neg c9] at H
    have bS := decide_eq_false c9
    have cc : decide (2 < ab.length) = false := decide_eq_false (by omega)
    clear c9
    (first|rw [bS]|(simp only [i64_w,i32_w];rw [bS])|rw [cc]|skip)
    have H' := aK H
    clear H
    obtain ⟨_,_,_,_,_,_,_,_,_,_⟩ := bk5_ aa.out
    go_wp2
    repeat (go_quiet (fail);try go_wp2)
    go_meet
    case rel => exact ⟨_,(decide ((ag.length : Int) > 16)),(by first|rfl|(simp;done)|(simp [*];done)),H',⟨by first|omega|exact Nat.le_refl _⟩,⟨kM aa.out⟩,⟨bG HB.out⟩⟩
  case rest =>
   clear cL
   try clear p2
   try clear c4
   try clear aV
   try clear aW
   try clear aX
   try clear aY
   try clear aZ
   try clear a0
   try clear a1
   try clear a2
   try clear a3
   try clear a4
   obtain ⟨kq,bb,rfl,HA,cS,aa,HB⟩ := hcut
   cases kq with
  |zero => exact absurd HA.out (by simp [r26_check.j0])
  |succ kj4 =>
    have H := HA.out
    clear HA
    simp only [r26_check.j0] at H
    by_cases cm : bb = true
    ·subst cm
     rw [if_pos rfl] at H
     obtain rfl := Option.some.inj H
     go_wp2
     repeat (go_quiet (fail);try go_wp2)
     go_ret
     exact ⟨by first|rfl|(simp [errW_none,errW_some] <;> rfl)|(simp [*,errW_none,errW_some] <;> rfl),bG HB.out⟩
    ·replace cm := Bool.eq_false_iff.mpr cm
     subst cm
     rw [if_neg (show ¬ (false = true) by decide)] at H
     have H' := aK H
     clear H
     go_wp2
     repeat (go_quiet (fail);try go_wp2)
     go_loopg [5] kj4 (fun kq v5 w' => ∃ (aE : Int),v5 = .int .i64 aE ∧ Aside0 (r26_check.l0 kq l0 aE ai ab ag aj ak = some r) ∧ Aside0 (kq ≤ kj4) ∧ Aside0 (w'.heap[ac]? = some (.cells #[.int .i64 ai,(.slice aN ab.length ax),(.slice ay ag.length az),.int .i64 aj,.int .i64 ak] 28 (0,0))) ∧ Aside0 (Below w.heap.size w w'))
     case atStart => exact ⟨(0),(by first|rfl|(simp;done)|(simp [*];done)),H',⟨Nat.le_refl _⟩,⟨kM aa.out⟩,⟨bG HB.out⟩⟩
     case round =>
      clear H'
      try clear p2
      try clear cm
      try clear p2
      obtain ⟨aE,rfl,HA,cT,aa,HB⟩ := hrel
      cases gk with
     |zero => exact absurd HA.out (by simp [r26_check.l0])
     |succ k2 =>
       have H := HA.out
       clear HA
       simp only [r26_check.l0] at H
       by_cases ck : aE < (ab.length : Int)
       ·rw [if_pos ck] at H
        have cn := decide_eq_true ck
        clear ck
        obtain ⟨cU,H⟩ := iS H
        have cV := decide_eq_true cU
        clear cU
        replace H := Option.bind_eq_some_iff.mp H
        obtain ⟨⟨bN,bO,bP,bQ,bR,co⟩,cp,H⟩ := H
        replace H : (if co = true then (r26_check.l0 k2 l0 (wrap64 (aE + 1)) ai ab ag aj ak) else (some 8)) = some r := H
        have cl := aK cp
        clear cp
        by_cases cJ : co = true
        ·subst cJ
         rw [if_pos rfl] at H
         have H' := aK H
         clear H
         obtain ⟨_,_,_,_,_,_,_,_,_,_⟩ := bk5_ aa.out
         have a5 : 0 ≤ (aE : Int) := dA
         have a6 : aE < (ab.length : Int) := dA
         obtain ⟨aA,cd,aL⟩ := Kd.at_int au.out aE a5 a6
         cases cd
         replace aL := xM HB aL
         replace a5 := eq_true a5
         replace a6 := eq_true a6
         go_wp2_with (first|(go_at_call 13;(with_reducible refine (r26_Get.calls k2 (fun k_ => k_ < w.heap.size) _ _ l0 (rd ab aE) bN bO bP bQ bR true _ ?ae cl.out).mono ?_);(case ae => exact Kd.V_mk aP.out (Kd.F_below (Kd.C_F k28_heap aO.out) (bG HB.out)));rintro e cW ⟨bT,bU,rfl,aM,aS,hb⟩;have aq := aK (Kd.V_lower (Kd.V_mono (ok' := fun k_ => k_ ≠ ac) aM (fun k_ hk_ => Or.elim hk_ (fun hs_ => fun e_ => Nat.not_le.2 hs_ (by rw [e_];exact al.out)) (fun hn_ => (Kd.freshB (g := ac) (o := .cells #[.int .i64 ai,.slice (some aA) ab.length ax,.slice ay ag.length az,.int .i64 aj,.int .i64 ak] 28 (0,0)) (kM aa.out) k_ hn_)))) (below_size (bG HB.out)));have ar := aK (Kd.V_lower (Kd.V_mono (ok' := fun k_ => k_ ≠ ac) aS (fun k_ hk_ => Or.elim hk_ (fun hs_ => fun e_ => Nat.not_le.2 hs_ (by rw [e_];exact al.out)) (fun hn_ => (Kd.freshB (g := ac) (o := .cells #[.int .i64 ai,.slice (some aA) ab.length ax,.slice ay ag.length az,.int .i64 aj,.int .i64 ak] 28 (0,0)) (kM aa.out) k_ hn_)))) (below_size (bG HB.out)));replace aa := aK (blk_below (kM aa.out) hb);replace HB := aK (below_step (bG HB.out) hb);(try clear hb);(try clear aM);(try clear aS))|((with_reducible refine gate_dst (N := 6) rfl ?_);(try (refine gate_guard (by rfl) ?_;dsimp only));refine box_event ?hg (N := 6) ?hd (cs := #[.int .i64 0,.slice none 0 0,.slice none 0 0,.int .i64 0,.int .i64 0]) (t := 28) ?hr ?_;(case hd => rfl);(case hg => rfl);(case hr => first|(go_simp;done)|(go_simp;rfl));intro af hg cX hbox hb;replace aq := aK (Kd.V_below (Kd.V_elderB (vM aq.out) af (Nat.le_of_eq hg.symm)) hb);replace ar := aK (Kd.V_below (Kd.V_elderB (vM ar.out) af (Nat.le_of_eq hg.symm)) hb);have aH := aK (hbox);have aI := aK ((by rw [hg];exact (below_size (bG HB.out)) : w.heap.size ≤ af));have aT := Ge.mk aI.out;have aJ := aK ((by rw [hg];exact (below_size (bG HB.out)) : w.heap.size ≤ af));have aU := Ge.mk aJ.out;replace HB := aK (below_step (bG HB.out) hb);have ad := aK (nbL aa.out hg);have ah := aK (nbR aa.out hg);replace aa := aK (blk_below (kM aa.out) hb);clear hb hbox hg;have b8 := ah.out;have b9 := ad.out;obtain ⟨bc,bd,be,bf,bg,bh,bi,bj,bk,bm⟩ := bk5_ aH.out;obtain ⟨cq,cr,bV⟩ := Kd.V_slice aq.out;subst bV;obtain ⟨ct,cu,bW⟩ := Kd.V_slice ar.out;subst bW))
         repeat (go_quiet (first|(go_at_call 13;(with_reducible refine (r26_Get.calls k2 (fun k_ => k_ < w.heap.size) _ _ l0 (rd ab aE) bN bO bP bQ bR true _ ?ae cl.out).mono ?_);(case ae => exact Kd.V_mk aP.out (Kd.F_below (Kd.C_F k28_heap aO.out) (bG HB.out)));rintro e cW ⟨bT,bU,rfl,aM,aS,hb⟩;have aq := aK (Kd.V_lower (Kd.V_mono (ok' := fun k_ => k_ ≠ ac) aM (fun k_ hk_ => Or.elim hk_ (fun hs_ => fun e_ => Nat.not_le.2 hs_ (by rw [e_];exact al.out)) (fun hn_ => (Kd.freshB (g := ac) (o := .cells #[.int .i64 ai,.slice (some aA) ab.length ax,.slice ay ag.length az,.int .i64 aj,.int .i64 ak] 28 (0,0)) (kM aa.out) k_ hn_)))) (below_size (bG HB.out)));have ar := aK (Kd.V_lower (Kd.V_mono (ok' := fun k_ => k_ ≠ ac) aS (fun k_ hk_ => Or.elim hk_ (fun hs_ => fun e_ => Nat.not_le.2 hs_ (by rw [e_];exact al.out)) (fun hn_ => (Kd.freshB (g := ac) (o := .cells #[.int .i64 ai,.slice (some aA) ab.length ax,.slice ay ag.length az,.int .i64 aj,.int .i64 ak] 28 (0,0)) (kM aa.out) k_ hn_)))) (below_size (bG HB.out)));replace aa := aK (blk_below (kM aa.out) hb);replace HB := aK (below_step (bG HB.out) hb);(try clear hb);(try clear aM);(try clear aS))|((with_reducible refine gate_dst (N := 6) rfl ?_);(try (refine gate_guard (by rfl) ?_;dsimp only));refine box_event ?hg (N := 6) ?hd (cs := #[.int .i64 0,.slice none 0 0,.slice none 0 0,.int .i64 0,.int .i64 0]) (t := 28) ?hr ?_;(case hd => rfl);(case hg => rfl);(case hr => first|(go_simp;done)|(go_simp;rfl));intro af hg cX hbox hb;replace aq := aK (Kd.V_below (Kd.V_elderB (vM aq.out) af (Nat.le_of_eq hg.symm)) hb);replace ar := aK (Kd.V_below (Kd.V_elderB (vM ar.out) af (Nat.le_of_eq hg.symm)) hb);have aH := aK (hbox);have aI := aK ((by rw [hg];exact (below_size (bG HB.out)) : w.heap.size ≤ af));have aT := Ge.mk aI.out;have aJ := aK ((by rw [hg];exact (below_size (bG HB.out)) : w.heap.size ≤ af));have aU := Ge.mk aJ.out;replace HB := aK (below_step (bG HB.out) hb);have ad := aK (nbL aa.out hg);have ah := aK (nbR aa.out hg);replace aa := aK (blk_below (kM aa.out) hb);clear hb hbox hg;have b8 := ah.out;have b9 := ad.out;obtain ⟨bc,bd,be,bf,bg,bh,bi,bj,bk,bm⟩ := bk5_ aH.out;obtain ⟨cq,cr,bV⟩ := Kd.V_slice aq.out;subst bV;obtain ⟨ct,cu,bW⟩ := Kd.V_slice ar.out;subst bW));try go_wp2_with (first|(go_at_call 13;(with_reducible refine (r26_Get.calls k2 (fun k_ => k_ < w.heap.size) _ _ l0 (rd ab aE) bN bO bP bQ bR true _ ?ae cl.out).mono ?_);(case ae => exact Kd.V_mk aP.out (Kd.F_below (Kd.C_F k28_heap aO.out) (bG HB.out)));rintro e cW ⟨bT,bU,rfl,aM,aS,hb⟩;have aq := aK (Kd.V_lower (Kd.V_mono (ok' := fun k_ => k_ ≠ ac) aM (fun k_ hk_ => Or.elim hk_ (fun hs_ => fun e_ => Nat.not_le.2 hs_ (by rw [e_];exact al.out)) (fun hn_ => (Kd.freshB (g := ac) (o := .cells #[.int .i64 ai,.slice (some aA) ab.length ax,.slice ay ag.length az,.int .i64 aj,.int .i64 ak] 28 (0,0)) (kM aa.out) k_ hn_)))) (below_size (bG HB.out)));have ar := aK (Kd.V_lower (Kd.V_mono (ok' := fun k_ => k_ ≠ ac) aS (fun k_ hk_ => Or.elim hk_ (fun hs_ => fun e_ => Nat.not_le.2 hs_ (by rw [e_];exact al.out)) (fun hn_ => (Kd.freshB (g := ac) (o := .cells #[.int .i64 ai,.slice (some aA) ab.length ax,.slice ay ag.length az,.int .i64 aj,.int .i64 ak] 28 (0,0)) (kM aa.out) k_ hn_)))) (below_size (bG HB.out)));replace aa := aK (blk_below (kM aa.out) hb);replace HB := aK (below_step (bG HB.out) hb);(try clear hb);(try clear aM);(try clear aS))|((with_reducible refine gate_dst (N := 6) rfl ?_);(try (refine gate_guard (by rfl) ?_;dsimp only));refine box_event ?hg (N := 6) ?hd (cs := #[.int .i64 0,.slice none 0 0,.slice none 0 0,.int .i64 0,.int .i64 0]) (t := 28) ?hr ?_;(case hd => rfl);(case hg => rfl);(case hr => first|(go_simp;done)|(go_simp;rfl));intro af hg cX hbox hb;replace aq := aK (Kd.V_below (Kd.V_elderB (vM aq.out) af (Nat.le_of_eq hg.symm)) hb);replace ar := aK (Kd.V_below (Kd.V_elderB (vM ar.out) af (Nat.le_of_eq hg.symm)) hb);have aH := aK (hbox);have aI := aK ((by rw [hg];exact (below_size (bG HB.out)) : w.heap.size ≤ af));have aT := Ge.mk aI.out;have aJ := aK ((by rw [hg];exact (below_size (bG HB.out)) : w.heap.size ≤ af));have aU := Ge.mk aJ.out;replace HB := aK (below_step (bG HB.out) hb);have ad := aK (nbL aa.out hg);have ah := aK (nbR aa.out hg);replace aa := aK (blk_below (kM aa.out) hb);clear hb hbox hg;have b8 := ah.out;have b9 := ad.out;obtain ⟨bc,bd,be,bf,bg,bh,bi,bj,bk,bm⟩ := bk5_ aH.out;obtain ⟨cq,cr,bV⟩ := Kd.V_slice aq.out;subst bV;obtain ⟨ct,cu,bW⟩ := Kd.V_slice ar.out;subst bW)))
         go_roundg k2
         case measure => have := cS.out;have := cT.out;omega
         case rel => exact ⟨(wrap64 (aE + 1)),(by first|rfl|(simp;done)|(simp [*];done)),H',⟨by have := cS.out;have := cT.out;omega⟩,⟨by refine kO ?_;refine blk_far ?_ ad.out _;refine kO ?_;refine blk_far ?_ ad.out _;refine kO ?_;refine blk_far ?_ ad.out _;refine kO ?_;refine blk_far ?_ ad.out _;refine kO ?_;refine blk_far ?_ ad.out _;refine kO ?_;exact aa.out⟩,⟨bG HB.out⟩⟩
        ·replace cJ := Bool.eq_false_iff.mpr cJ
         subst cJ
         rw [if_neg (show ¬ (false = true) by decide)] at H
         obtain rfl := Option.some.inj H
         obtain ⟨_,_,_,_,_,_,_,_,_,_⟩ := bk5_ aa.out
         have a5 : 0 ≤ (aE : Int) := dA
         have a6 : aE < (ab.length : Int) := dA
         obtain ⟨aA,cd,aL⟩ := Kd.at_int au.out aE a5 a6
         cases cd
         replace aL := xM HB aL
         replace a5 := eq_true a5
         replace a6 := eq_true a6
         go_wp2_with (first|(go_at_call 13;(with_reducible refine (r26_Get.calls k2 (fun k_ => k_ < w.heap.size) _ _ l0 (rd ab aE) bN bO bP bQ bR false _ ?ae cl.out).mono ?_);(case ae => exact Kd.V_mk aP.out (Kd.F_below (Kd.C_F k28_heap aO.out) (bG HB.out)));rintro e cY ⟨bT,bU,rfl,aM,aS,hb⟩;have aq := aK (Kd.V_lower (Kd.V_mono (ok' := fun k_ => k_ ≠ ac) aM (fun k_ hk_ => Or.elim hk_ (fun hs_ => fun e_ => Nat.not_le.2 hs_ (by rw [e_];exact al.out)) (fun hn_ => (Kd.freshB (g := ac) (o := .cells #[.int .i64 ai,.slice (some aA) ab.length ax,.slice ay ag.length az,.int .i64 aj,.int .i64 ak] 28 (0,0)) (kM aa.out) k_ hn_)))) (below_size (bG HB.out)));have ar := aK (Kd.V_lower (Kd.V_mono (ok' := fun k_ => k_ ≠ ac) aS (fun k_ hk_ => Or.elim hk_ (fun hs_ => fun e_ => Nat.not_le.2 hs_ (by rw [e_];exact al.out)) (fun hn_ => (Kd.freshB (g := ac) (o := .cells #[.int .i64 ai,.slice (some aA) ab.length ax,.slice ay ag.length az,.int .i64 aj,.int .i64 ak] 28 (0,0)) (kM aa.out) k_ hn_)))) (below_size (bG HB.out)));replace aa := aK (blk_below (kM aa.out) hb);replace HB := aK (below_step (bG HB.out) hb);(try clear hb);(try clear aM);(try clear aS))|((with_reducible refine gate_dst (N := 6) rfl ?_);(try (refine gate_guard (by rfl) ?_;dsimp only));refine box_event ?hg (N := 6) ?hd (cs := #[.int .i64 0,.slice none 0 0,.slice none 0 0,.int .i64 0,.int .i64 0]) (t := 28) ?hr ?_;(case hd => rfl);(case hg => rfl);(case hr => first|(go_simp;done)|(go_simp;rfl));intro af hg cZ hbox hb;replace aq := aK (Kd.V_below (Kd.V_elderB (vM aq.out) af (Nat.le_of_eq hg.symm)) hb);replace ar := aK (Kd.V_below (Kd.V_elderB (vM ar.out) af (Nat.le_of_eq hg.symm)) hb);have aH := aK (hbox);have aI := aK ((by rw [hg];exact (below_size (bG HB.out)) : w.heap.size ≤ af));have aT := Ge.mk aI.out;have aJ := aK ((by rw [hg];exact (below_size (bG HB.out)) : w.heap.size ≤ af));have aU := Ge.mk aJ.out;replace HB := aK (below_step (bG HB.out) hb);have ad := aK (nbL aa.out hg);have ah := aK (nbR aa.out hg);replace aa := aK (blk_below (kM aa.out) hb);clear hb hbox hg;have ca := ah.out;have cb := ad.out;obtain ⟨bn,bo,bp,bq,br,bs,bu,bv,bx,bz⟩ := bk5_ aH.out;obtain ⟨cv,cw,bX⟩ := Kd.V_slice aq.out;subst bX;obtain ⟨cx,cy,bY⟩ := Kd.V_slice ar.out;subst bY))
         repeat (go_quiet (first|(go_at_call 13;(with_reducible refine (r26_Get.calls k2 (fun k_ => k_ < w.heap.size) _ _ l0 (rd ab aE) bN bO bP bQ bR false _ ?ae cl.out).mono ?_);(case ae => exact Kd.V_mk aP.out (Kd.F_below (Kd.C_F k28_heap aO.out) (bG HB.out)));rintro e cY ⟨bT,bU,rfl,aM,aS,hb⟩;have aq := aK (Kd.V_lower (Kd.V_mono (ok' := fun k_ => k_ ≠ ac) aM (fun k_ hk_ => Or.elim hk_ (fun hs_ => fun e_ => Nat.not_le.2 hs_ (by rw [e_];exact al.out)) (fun hn_ => (Kd.freshB (g := ac) (o := .cells #[.int .i64 ai,.slice (some aA) ab.length ax,.slice ay ag.length az,.int .i64 aj,.int .i64 ak] 28 (0,0)) (kM aa.out) k_ hn_)))) (below_size (bG HB.out)));have ar := aK (Kd.V_lower (Kd.V_mono (ok' := fun k_ => k_ ≠ ac) aS (fun k_ hk_ => Or.elim hk_ (fun hs_ => fun e_ => Nat.not_le.2 hs_ (by rw [e_];exact al.out)) (fun hn_ => (Kd.freshB (g := ac) (o := .cells #[.int .i64 ai,.slice (some aA) ab.length ax,.slice ay ag.length az,.int .i64 aj,.int .i64 ak] 28 (0,0)) (kM aa.out) k_ hn_)))) (below_size (bG HB.out)));replace aa := aK (blk_below (kM aa.out) hb);replace HB := aK (below_step (bG HB.out) hb);(try clear hb);(try clear aM);(try clear aS))|((with_reducible refine gate_dst (N := 6) rfl ?_);(try (refine gate_guard (by rfl) ?_;dsimp only));refine box_event ?hg (N := 6) ?hd (cs := #[.int .i64 0,.slice none 0 0,.slice none 0 0,.int .i64 0,.int .i64 0]) (t := 28) ?hr ?_;(case hd => rfl);(case hg => rfl);(case hr => first|(go_simp;done)|(go_simp;rfl));intro af hg cZ hbox hb;replace aq := aK (Kd.V_below (Kd.V_elderB (vM aq.out) af (Nat.le_of_eq hg.symm)) hb);replace ar := aK (Kd.V_below (Kd.V_elderB (vM ar.out) af (Nat.le_of_eq hg.symm)) hb);have aH := aK (hbox);have aI := aK ((by rw [hg];exact (below_size (bG HB.out)) : w.heap.size ≤ af));have aT := Ge.mk aI.out;have aJ := aK ((by rw [hg];exact (below_size (bG HB.out)) : w.heap.size ≤ af));have aU := Ge.mk aJ.out;replace HB := aK (below_step (bG HB.out) hb);have ad := aK (nbL aa.out hg);have ah := aK (nbR aa.out hg);replace aa := aK (blk_below (kM aa.out) hb);clear hb hbox hg;have ca := ah.out;have cb := ad.out;obtain ⟨bn,bo,bp,bq,br,bs,bu,bv,bx,bz⟩ := bk5_ aH.out;obtain ⟨cv,cw,bX⟩ := Kd.V_slice aq.out;subst bX;obtain ⟨cx,cy,bY⟩ := Kd.V_slice ar.out;subst bY));try go_wp2_with (first|(go_at_call 13;(with_reducible refine (r26_Get.calls k2 (fun k_ => k_ < w.heap.size) _ _ l0 (rd ab aE) bN bO bP bQ bR false _ ?ae cl.out).mono ?_);(case ae => exact Kd.V_mk aP.out (Kd.F_below (Kd.C_F k28_heap aO.out) (bG HB.out)));rintro e cY ⟨bT,bU,rfl,aM,aS,hb⟩;have aq := aK (Kd.V_lower (Kd.V_mono (ok' := fun k_ => k_ ≠ ac) aM (fun k_ hk_ => Or.elim hk_ (fun hs_ => fun e_ => Nat.not_le.2 hs_ (by rw [e_];exact al.out)) (fun hn_ => (Kd.freshB (g := ac) (o := .cells #[.int .i64 ai,.slice (some aA) ab.length ax,.slice ay ag.length az,.int .i64 aj,.int .i64 ak] 28 (0,0)) (kM aa.out) k_ hn_)))) (below_size (bG HB.out)));have ar := aK (Kd.V_lower (Kd.V_mono (ok' := fun k_ => k_ ≠ ac) aS (fun k_ hk_ => Or.elim hk_ (fun hs_ => fun e_ => Nat.not_le.2 hs_ (by rw [e_];exact al.out)) (fun hn_ => (Kd.freshB (g := ac) (o := .cells #[.int .i64 ai,.slice (some aA) ab.length ax,.slice ay ag.length az,.int .i64 aj,.int .i64 ak] 28 (0,0)) (kM aa.out) k_ hn_)))) (below_size (bG HB.out)));replace aa := aK (blk_below (kM aa.out) hb);replace HB := aK (below_step (bG HB.out) hb);(try clear hb);(try clear aM);(try clear aS))|((with_reducible refine gate_dst (N := 6) rfl ?_);(try (refine gate_guard (by rfl) ?_;dsimp only));refine box_event ?hg (N := 6) ?hd (cs := #[.int .i64 0,.slice none 0 0,.slice none 0 0,.int .i64 0,.int .i64 0]) (t := 28) ?hr ?_;(case hd => rfl);(case hg => rfl);(case hr => first|(go_simp;done)|(go_simp;rfl));intro af hg cZ hbox hb;replace aq := aK (Kd.V_below (Kd.V_elderB (vM aq.out) af (Nat.le_of_eq hg.symm)) hb);replace ar := aK (Kd.V_below (Kd.V_elderB (vM ar.out) af (Nat.le_of_eq hg.symm)) hb);have aH := aK (hbox);have aI := aK ((by rw [hg];exact (below_size (bG HB.out)) : w.heap.size ≤ af));have aT := Ge.mk aI.out;have aJ := aK ((by rw [hg];exact (below_size (bG HB.out)) : w.heap.size ≤ af));have aU := Ge.mk aJ.out;replace HB := aK (below_step (bG HB.out) hb);have ad := aK (nbL aa.out hg);have ah := aK (nbR aa.out hg);replace aa := aK (blk_below (kM aa.out) hb);clear hb hbox hg;have ca := ah.out;have cb := ad.out;obtain ⟨bn,bo,bp,bq,br,bs,bu,bv,bx,bz⟩ := bk5_ aH.out;obtain ⟨cv,cw,bX⟩ := Kd.V_slice aq.out;subst bX;obtain ⟨cx,cy,bY⟩ := Kd.V_slice ar.out;subst bY)))
         go_ret
         exact ⟨by first|rfl|(simp [errW_none,errW_some] <;> rfl)|(simp [*,errW_none,errW_some] <;> rfl),bG HB.out⟩
       ·rw [if_neg ck] at H
        have cn := decide_eq_false ck
        clear ck
        by_cases ce : (ab.length : Int) = 2
        ·rw [if_pos ce] at H
         have cz := beq_iff_eq.mpr ce
         have cA := bne_eq_false_iff_eq.mpr ce
         clear ce
         obtain ⟨c1,H⟩ := iS H
         have da := decide_eq_true c1
         have db : decide (0 < ab.length) = true := decide_eq_true (by omega)
         clear c1
         obtain ⟨dc,H⟩ := iS H
         have dd := decide_eq_true dc
         have de : decide (1 < ab.length) = true := decide_eq_true (by omega)
         clear dc
         by_cases cf : (rd ab 0) = (rd ab 1)
         ·rw [if_pos cf] at H
          have cB := beq_iff_eq.mpr cf
          have cC := bne_eq_false_iff_eq.mpr cf
          clear cf
          obtain rfl := Option.some.inj H
          obtain ⟨_,_,_,_,_,_,_,_,_,_⟩ := bk5_ aa.out
          have a7 : 0 ≤ (0 : Int) := (by omega)
          have a8 : 0 < (ab.length : Int) := dA
          obtain ⟨bZ,cg,av⟩ := Kd.at_int au.out 0 a7 a8
          cases cg
          have cD : (0 < ab.length) = True := eq_true (by omega)
          (try rw [show ((0 : Int)).toNat = 0 from rfl] at av)
          (try rw [Addr.add_zero'] at av)
          replace av := xM HB av
          replace a7 := eq_true a7
          replace a8 := eq_true a8
          have a9 : 0 ≤ (1 : Int) := (by omega)
          have ba : 1 < (ab.length : Int) := dA
          obtain ⟨b1,ch,aw⟩ := Kd.at_int au.out 1 a9 ba
          obtain rfl : bZ = b1 := (by injection ch)
          (try simp only [show (1 : Int).toNat = 1 from rfl,Nat.reduceMul,Nat.reduceEqDiff,Go.Addr.add,↓reduceIte] at aw)
          have cE : (1 < ab.length) = True := eq_true (by omega)
          (try rw [show ((1 : Int)).toNat = 1 from rfl] at aw)
          replace aw := xM HB aw
          replace a9 := eq_true a9
          replace ba := eq_true ba
          go_wp2
          repeat (go_quiet (fail);try go_wp2)
          go_ret
          exact ⟨by first|rfl|(simp [errW_none,errW_some] <;> rfl)|(simp [*,errW_none,errW_some] <;> rfl),bG HB.out⟩
         ·rw [if_neg cf] at H
          have cB := beq_eq_false_iff_ne.mpr cf
          have cC := bne_iff_ne.mpr cf
          replace H := Option.bind_eq_some_iff.mp H
          obtain ⟨⟨ci,b2⟩,cF,H⟩ := H
          replace H : (some b2) = some r := H
          have cN := aK cF
          clear cF
          obtain rfl := Option.some.inj H
          obtain ⟨_,_,_,_,_,_,_,_,_,_⟩ := bk5_ aa.out
          have a7 : 0 ≤ (0 : Int) := (by omega)
          have a8 : 0 < (ab.length : Int) := dA
          obtain ⟨bZ,cg,av⟩ := Kd.at_int au.out 0 a7 a8
          cases cg
          have cD : (0 < ab.length) = True := eq_true (by omega)
          (try rw [show ((0 : Int)).toNat = 0 from rfl] at av)
          (try rw [Addr.add_zero'] at av)
          replace av := xM HB av
          replace a7 := eq_true a7
          replace a8 := eq_true a8
          have a9 : 0 ≤ (1 : Int) := (by omega)
          have ba : 1 < (ab.length : Int) := dA
          obtain ⟨b1,ch,aw⟩ := Kd.at_int au.out 1 a9 ba
          obtain rfl : bZ = b1 := (by injection ch)
          (try simp only [show (1 : Int).toNat = 1 from rfl,Nat.reduceMul,Nat.reduceEqDiff,Go.Addr.add,↓reduceIte] at aw)
          have cE : (1 < ab.length) = True := eq_true (by omega)
          (try rw [show ((1 : Int)).toNat = 1 from rfl] at aw)
          replace aw := xM HB aw
          replace a9 := eq_true a9
          replace ba := eq_true ba
          go_wp2_with (first|(go_at_call 39;(with_reducible refine (r26_after.calls k2 (fun k_ => k_ < w.heap.size) _ _ l0 ai _ _ ab _ _ ag aj ak ci b2 _ ?ae ?am ?an ?ao ?ap cN.out).mono ?_);(case ae => exact Kd.V_mk aP.out (Kd.F_below (Kd.C_F k28_heap aO.out) (bG HB.out)));(case am => exact cM (Kd.C_below au.out HB.out));(case an => exact aB.out);(case ao => exact cM (Kd.C_below aC.out HB.out));(case ap => exact aD.out);rintro e df ⟨cG,rfl,aM,hb⟩;replace aa := aK (blk_below (kM aa.out) hb);replace HB := aK (below_step (bG HB.out) hb);(try clear hb);(try clear aM)))
          repeat (go_quiet (first|(go_at_call 39;(with_reducible refine (r26_after.calls k2 (fun k_ => k_ < w.heap.size) _ _ l0 ai _ _ ab _ _ ag aj ak ci b2 _ ?ae ?am ?an ?ao ?ap cN.out).mono ?_);(case ae => exact Kd.V_mk aP.out (Kd.F_below (Kd.C_F k28_heap aO.out) (bG HB.out)));(case am => exact cM (Kd.C_below au.out HB.out));(case an => exact aB.out);(case ao => exact cM (Kd.C_below aC.out HB.out));(case ap => exact aD.out);rintro e df ⟨cG,rfl,aM,hb⟩;replace aa := aK (blk_below (kM aa.out) hb);replace HB := aK (below_step (bG HB.out) hb);(try clear hb);(try clear aM)));try go_wp2_with (first|(go_at_call 39;(with_reducible refine (r26_after.calls k2 (fun k_ => k_ < w.heap.size) _ _ l0 ai _ _ ab _ _ ag aj ak ci b2 _ ?ae ?am ?an ?ao ?ap cN.out).mono ?_);(case ae => exact Kd.V_mk aP.out (Kd.F_below (Kd.C_F k28_heap aO.out) (bG HB.out)));(case am => exact cM (Kd.C_below au.out HB.out));(case an => exact aB.out);(case ao => exact cM (Kd.C_below aC.out HB.out));(case ap => exact aD.out);rintro e df ⟨cG,rfl,aM,hb⟩;replace aa := aK (blk_below (kM aa.out) hb);replace HB := aK (below_step (bG HB.out) hb);(try clear hb);(try clear aM))))
          go_ret
          exact ⟨by first|rfl|(simp [errW_none,errW_some] <;> rfl)|(simp [*,errW_none,errW_some] <;> rfl),bG HB.out⟩
        ·rw [if_neg ce] at H
         have cz := beq_eq_false_iff_ne.mpr ce
         have cA := bne_iff_ne.mpr ce
         replace H := Option.bind_eq_some_iff.mp H
         obtain ⟨⟨cj,b3⟩,cH,H⟩ := H
         replace H : (some b3) = some r := H
         have cO := aK cH
         clear cH
         obtain rfl := Option.some.inj H
         obtain ⟨_,_,_,_,_,_,_,_,_,_⟩ := bk5_ aa.out
         go_wp2_with (first|(go_at_call 39;(with_reducible refine (r26_after.calls k2 (fun k_ => k_ < w.heap.size) _ _ l0 ai _ _ ab _ _ ag aj ak cj b3 _ ?ae ?am ?an ?ao ?ap cO.out).mono ?_);(case ae => exact Kd.V_mk aP.out (Kd.F_below (Kd.C_F k28_heap aO.out) (bG HB.out)));(case am => exact cM (Kd.C_below au.out HB.out));(case an => exact aB.out);(case ao => exact cM (Kd.C_below aC.out HB.out));(case ap => exact aD.out);rintro e dg ⟨cI,rfl,aM,hb⟩;replace aa := aK (blk_below (kM aa.out) hb);replace HB := aK (below_step (bG HB.out) hb);(try clear hb);(try clear aM)))
         repeat (go_quiet (first|(go_at_call 39;(with_reducible refine (r26_after.calls k2 (fun k_ => k_ < w.heap.size) _ _ l0 ai _ _ ab _ _ ag aj ak cj b3 _ ?ae ?am ?an ?ao ?ap cO.out).mono ?_);(case ae => exact Kd.V_mk aP.out (Kd.F_below (Kd.C_F k28_heap aO.out) (bG HB.out)));(case am => exact cM (Kd.C_below au.out HB.out));(case an => exact aB.out);(case ao => exact cM (Kd.C_below aC.out HB.out));(case ap => exact aD.out);rintro e dg ⟨cI,rfl,aM,hb⟩;replace aa := aK (blk_below (kM aa.out) hb);replace HB := aK (below_step (bG HB.out) hb);(try clear hb);(try clear aM)));try go_wp2_with (first|(go_at_call 39;(with_reducible refine (r26_after.calls k2 (fun k_ => k_ < w.heap.size) _ _ l0 ai _ _ ab _ _ ag aj ak cj b3 _ ?ae ?am ?an ?ao ?ap cO.out).mono ?_);(case ae => exact Kd.V_mk aP.out (Kd.F_below (Kd.C_F k28_heap aO.out) (bG HB.out)));(case am => exact cM (Kd.C_below au.out HB.out));(case an => exact aB.out);(case ao => exact cM (Kd.C_below aC.out HB.out));(case ap => exact aD.out);rintro e dg ⟨cI,rfl,aM,hb⟩;replace aa := aK (blk_below (kM aa.out) hb);replace HB := aK (below_step (bG HB.out) hb);(try clear hb);(try clear aM))))
         go_ret
         exact ⟨by first|rfl|(simp [errW_none,errW_some] <;> rfl)|(simp [*,errW_none,errW_some] <;> rfl),bG HB.out⟩
 ·replace c4 := Bool.eq_false_iff.mpr c4
  subst c4
  rw [if_neg (show ¬ (false = true) by decide)] at H
  obtain rfl := Option.some.inj H
  go_enter Tryz.func38,Tryz.ntmps38
  go_wp2_with (first|((with_reducible refine gate_dst (N := 3) rfl ?_);(try (refine gate_guard (by rfl) ?_;dsimp only));refine box_event ?hg (N := 3) ?hd (cs := #[.int .i64 ai,.slice aN ab.length ax,.slice ay ag.length az,.int .i64 aj,.int .i64 ak]) (t := 28) ?hr ?_;(case hd => rfl);(case hg => rfl);(case hr => first|(go_simp;done)|(go_simp;rfl));intro ac hg dh hbox hb;have aa := aK (hbox);have al := aK ((by rw [hg];exact (below_size (bM HB.out)) : w.heap.size ≤ ac));have aQ := Ge.mk al.out;have aF := aK ((by rw [hg];exact (below_size (bM HB.out)) : w.heap.size ≤ ac));have aR := Ge.mk aF.out;replace HB := aK (below_step (bM HB.out) hb);clear hb hbox hg;obtain ⟨bB,bC,bD,bE,bF,bH,bI,bJ,bK,bL⟩ := bk5_ aa.out)|(go_at_call 58;(with_reducible refine (r26_numbers.calls k _ _ l0 ai _ _ ab _ _ ag aj ak false _ ?ae ?am ?an ?ao ?ap ?aG A3.out).mono ?_);(case ae => exact cM (Kd.C_below aO.out HB.out));(case am => exact aP.out);(case an => exact cM (Kd.C_below au.out HB.out));(case ao => exact aB.out);(case ap => exact cM (Kd.C_below aC.out HB.out));(case aG => exact aD.out);rintro e di ⟨rfl,hb⟩;replace aa := aK (blk_below (kM aa.out) hb);replace HB := aK (below_step (bG HB.out) hb);(try clear hb)))
  repeat (go_quiet (first|((with_reducible refine gate_dst (N := 3) rfl ?_);(try (refine gate_guard (by rfl) ?_;dsimp only));refine box_event ?hg (N := 3) ?hd (cs := #[.int .i64 ai,.slice aN ab.length ax,.slice ay ag.length az,.int .i64 aj,.int .i64 ak]) (t := 28) ?hr ?_;(case hd => rfl);(case hg => rfl);(case hr => first|(go_simp;done)|(go_simp;rfl));intro ac hg dh hbox hb;have aa := aK (hbox);have al := aK ((by rw [hg];exact (below_size (bM HB.out)) : w.heap.size ≤ ac));have aQ := Ge.mk al.out;have aF := aK ((by rw [hg];exact (below_size (bM HB.out)) : w.heap.size ≤ ac));have aR := Ge.mk aF.out;replace HB := aK (below_step (bM HB.out) hb);clear hb hbox hg;obtain ⟨bB,bC,bD,bE,bF,bH,bI,bJ,bK,bL⟩ := bk5_ aa.out)|(go_at_call 58;(with_reducible refine (r26_numbers.calls k _ _ l0 ai _ _ ab _ _ ag aj ak false _ ?ae ?am ?an ?ao ?ap ?aG A3.out).mono ?_);(case ae => exact cM (Kd.C_below aO.out HB.out));(case am => exact aP.out);(case an => exact cM (Kd.C_below au.out HB.out));(case ao => exact aB.out);(case ap => exact cM (Kd.C_below aC.out HB.out));(case aG => exact aD.out);rintro e di ⟨rfl,hb⟩;replace aa := aK (blk_below (kM aa.out) hb);replace HB := aK (below_step (bG HB.out) hb);(try clear hb)));try go_wp2_with (first|((with_reducible refine gate_dst (N := 3) rfl ?_);(try (refine gate_guard (by rfl) ?_;dsimp only));refine box_event ?hg (N := 3) ?hd (cs := #[.int .i64 ai,.slice aN ab.length ax,.slice ay ag.length az,.int .i64 aj,.int .i64 ak]) (t := 28) ?hr ?_;(case hd => rfl);(case hg => rfl);(case hr => first|(go_simp;done)|(go_simp;rfl));intro ac hg dh hbox hb;have aa := aK (hbox);have al := aK ((by rw [hg];exact (below_size (bM HB.out)) : w.heap.size ≤ ac));have aQ := Ge.mk al.out;have aF := aK ((by rw [hg];exact (below_size (bM HB.out)) : w.heap.size ≤ ac));have aR := Ge.mk aF.out;replace HB := aK (below_step (bM HB.out) hb);clear hb hbox hg;obtain ⟨bB,bC,bD,bE,bF,bH,bI,bJ,bK,bL⟩ := bk5_ aa.out)|(go_at_call 58;(with_reducible refine (r26_numbers.calls k _ _ l0 ai _ _ ab _ _ ag aj ak false _ ?ae ?am ?an ?ao ?ap ?aG A3.out).mono ?_);(case ae => exact cM (Kd.C_below aO.out HB.out));(case am => exact aP.out);(case an => exact cM (Kd.C_below au.out HB.out));(case ao => exact aB.out);(case ap => exact cM (Kd.C_below aC.out HB.out));(case aG => exact aD.out);rintro e di ⟨rfl,hb⟩;replace HB := aK (below_step (bG HB.out) hb);(try clear hb))))
  go_ret
  exact ⟨by first|rfl|(simp [errW_none,errW_some] <;> rfl)|(simp [*,errW_none,errW_some] <;> rfl),bG HB.out⟩

/-! ### r26_Right: function 15 -/
def r26_Right.l0 : Nat → List (S28) → Int → Option (Int)
|0,_,_ => none
|k + 1,x0,x3 => if x3 < (x0.length : Int) then (if 0 ≤ x3 then (if x3 ≤ (x0.length : Int) then ((r26_check.f k (x0.take (x3 : Int).toNat) ((rd_T28 x0 x3).f0) ((rd_T28 x0 x3).f1) ((rd_T28 x0 x3).f2) ((rd_T28 x0 x3).f3) ((rd_T28 x0 x3).f4)).bind fun aa => (if aa = 0 then (r26_Right.l0 k x0 (wrap64 (x3 + 1))) else (some aa))) else (none)) else (none)) else (some 0)
def r26_Right.f (k : Nat) (l0 : List (S28)) : Option (Int) := if (l0.length : Int) > 64 then (some 4) else (r26_Right.l0 k l0 0)
theorem r26_Right.mono_l : ∀ k, (∀ y0 y1, LeO (r26_Right.l0 k y0 y1) (r26_Right.l0 (k + 1) y0 y1))
|0 => fun _ _ r h => by simp [r26_Right.l0] at h
|k + 1 => by
  have ih0 := r26_Right.mono_l k
  ·intro y0 y1
   unfold r26_Right.l0
   repeat' (with_reducible first|exact ih0 _ _|exact r26_check.mono _ _ _ _ _ _ _|exact LeO.refl _|exact LeO.none _|refine LeO.ite ?_ ?_|refine LeO.bind ?_ (fun _ => ?_))
theorem r26_Right.mono : ∀ a0 k, LeO (r26_Right.f k a0) (r26_Right.f (k + 1) a0) := by
 intro a0 k
 have ih0 := r26_Right.mono_l k
 unfold r26_Right.f
 repeat' (with_reducible first|exact ih0 _ _|exact r26_check.mono _ _ _ _ _ _ _|exact LeO.refl _|exact LeO.none _|refine LeO.ite ?_ ?_|refine LeO.bind ?_ (fun _ => ?_))
def r26_Right.T6 : Bool × List (List Nat × List Nat) := (true, [([], []), ([], []), ([0, 1], [0, 1]), ([], []), ([], []), ([3, 4], [3, 4]), ([5], [5]), ([2, 6], [2, 6]), ([7, 7, 0, 1, 2, 3, 4, 5, 6, 7], [7])])
def r26_Right.B6 : List Nat := [0, 0, 3, 0, 0, 24, 56, 127, 255]
theorem r26_Right.tab6 : rtab .any (opsOf Tryz.f15 6) = r26_Right.T6 := by kernel_rfl
theorem r26_Right.bits6 : waitsOk r26_Right.T6.2 r26_Right.B6 = true := by kernel_rfl
theorem r26_Right.calls (k : Nat) (A0 : Option Addr) (c0 : Nat) (l0 : List (S28)) (r : Int) (w : World) (bc : Kd.C k28 w A0 l0.length l0) (bd : l0.length ≤ c0) (h : r26_Right.f k l0 = some r) :
  Calls Tryz.prog 15 #[.slice A0 l0.length c0] w fun e w' => e = .returned (.int .i64 r) ∧ Below w.heap.size w w' := by
 have bi := Tryz.underlying28
 have a3 := aK bc
 have be := aK bd
 clear bc bd
 have HB := aK (Below.refl w.heap.size w)
 have H : (if (l0.length : Int) > 64 then (some 4) else (r26_Right.l0 k l0 0)) = some r := h
 clear h
 by_cases c2 : (l0.length : Int) > 64
 ·rw [if_pos c2] at H
  have aX := decide_eq_true c2
  have aY : decide (64 < l0.length) = true := decide_eq_true (by omega)
  clear c2
  obtain rfl := Option.some.inj H
  go_enter Tryz.func15,Tryz.ntmps15
  go_wp2
  go_ret
  exact ⟨by first|rfl|(simp [errW_none,errW_some] <;> rfl)|(simp [*,errW_none,errW_some] <;> rfl),bM HB.out⟩
 ·rw [if_neg c2] at H
  have aX := decide_eq_false c2
  have aY : decide (64 < l0.length) = false := decide_eq_false (by omega)
  clear c2
  have H' := aK H
  clear H
  go_enter Tryz.func15,Tryz.ntmps15
  go_wp2
  go_loopg [3] k (fun kq v3 w' => ∃ (aa : Int),v3 = .int .i64 aa ∧ Aside0 (r26_Right.l0 kq l0 aa = some r) ∧ Aside0 (kq ≤ k) ∧ Aside0 (Below w.heap.size w w'))
  case atStart => exact ⟨(0),(by first|rfl|(simp;done)|(simp [*];done)),H',⟨Nat.le_refl _⟩,⟨bM HB.out⟩⟩
  case round =>
   clear H'
   try clear c2
   try clear aX
   try clear aY
   try clear p2
   obtain ⟨aa,rfl,HA,bf,HB⟩ := hrel
   cases gk with
  |zero => exact absurd HA.out (by simp [r26_Right.l0])
  |succ k1 =>
    have H := HA.out
    clear HA
    simp only [r26_Right.l0] at H
    by_cases c3 : aa < (l0.length : Int)
    ·rw [if_pos c3] at H
     have a4 := decide_eq_true c3
     clear c3
     obtain ⟨c4,H⟩ := iS H
     have bj := eq_true c4
     have bk := decide_eq_true c4
     clear c4
     obtain ⟨c5,H⟩ := iS H
     have bm := eq_true c5
     have bn := decide_eq_true c5
     clear c5
     obtain ⟨ay,aB⟩ : ∃ y_ : List (S28),y_ = (l0.take (aa : Int).toNat) := ⟨_,rfl⟩
     replace H : ((r26_check.f k1 ay ((rd_T28 l0 aa).f0) ((rd_T28 l0 aa).f1) ((rd_T28 l0 aa).f2) ((rd_T28 l0 aa).f3) ((rd_T28 l0 aa).f4)).bind fun aH => (if aH = 0 then (r26_Right.l0 k1 l0 (wrap64 (aa + 1))) else (some aH))) = some r := by first|(rw [aB];with_reducible exact H)|(have a5 := (Option.bind_some _ _).symm.trans H;rw [aB];with_reducible exact a5)|(have a5 := (Option.bind_some _ _).symm.trans H;with_reducible exact a5)|with_reducible exact H|(rw [aB];exact H)|exact H
     have aF := aK aB
     clear aB
     replace H := Option.bind_eq_some_iff.mp H
     obtain ⟨aH,bg,H⟩ := H
     have A6 := aK bg
     clear bg
     by_cases c7 : aH = 0
     ·rw [if_pos c7] at H
      have a6 := beq_iff_eq.mpr c7
      have a7 := bne_eq_false_iff_eq.mpr c7
      clear c7
      have H' := aK H
      clear H
      try go_wp2
      have aI := aK (below_drew1 HB.out)
      clear HB
      have HB := aI
      clear aI
      have q9 : (aa : Int) ≤ ((l0.length : Int) : Int) := dA
      obtain ⟨bq,aZ,_,a8,_⟩ := info_parts info28
      have aJ : l0.length ≤ c0 := be.out
      have bh : Kd.C k28 _ A0 l0.length l0 := a3.out
      have a0 := cut_to (P := Tryz.prog) 22 28 .i64 Tryz.underlying22 aZ A0 l0.length c0 aa (dA) q9 aJ
      have a9 := Kd.C_take (m := (aa : Int).toNat) bh (by omega)
      have ba : ay.length = (aa : Int).toNat := (by rw [aF.out,List.length_take];omega)
      rw [← aF.out] at a9
      rw [← ba] at a0
      have aC := aK a9
      have aL := aK (show ay.length ≤ c0 from by omega)
      clear a9 bh aJ aZ a8
      have br := aK ba
      clear ba
      replace q9 := eq_true q9
      have aD : 0 ≤ (aa : Int) := dA
      have aE : aa < (l0.length : Int) := dA
      obtain ⟨ab,au,av,aw,ax,aT,ac,ad,ae,af,ag,am,an,ao,ap⟩ := at_T28 a3.out aa aD aE
      have ah := ag
      have ai := af
      have aj := ae
      have ak := ad
      have al := ac
      cases aT
      replace ac := xM HB ac
      replace ad := xM HB ad
      replace ae := xM HB ae
      replace af := xM HB af
      replace ag := xM HB ag
      have aq := aK an
      have az := aK am
      clear an am
      have ar := aK ap
      have aA := aK ao
      clear ap ao
      replace aD := eq_true aD
      replace aE := eq_true aE
      refine start_ (n := 9) (S := fun w' => w'.cell? (ab.add ((aa).toNat * 5)) = some (.int .i64 ((rd_T28 l0 aa).f0)) ∧ w'.cell? ⟨(ab.add ((aa).toNat * 5)).block,(ab.add ((aa).toNat * 5)).off + 1,none⟩ = some (.slice au ((rd_T28 l0 aa).f1).length av) ∧ w'.cell? ⟨(ab.add ((aa).toNat * 5)).block,(ab.add ((aa).toNat * 5)).off + 2,none⟩ = some (.slice aw ((rd_T28 l0 aa).f2).length ax) ∧ w'.cell? ⟨(ab.add ((aa).toNat * 5)).block,(ab.add ((aa).toNat * 5)).off + 3,none⟩ = some (.int .i64 ((rd_T28 l0 aa).f3)) ∧ w'.cell? ⟨(ab.add ((aa).toNat * 5)).block,(ab.add ((aa).toNat * 5)).off + 4,none⟩ = some (.int .i64 ((rd_T28 l0 aa).f4))) (ds := []) (bA 9 0) (by kernel_rfl) rfl rfl ⟨((HB.out.cell (World.block_lt_of_cell? w _ al)).trans al),((HB.out.cell (World.block_lt_of_cell? w _ ak)).trans ak),((HB.out.cell (World.block_lt_of_cell? w _ aj)).trans aj),((HB.out.cell (World.block_lt_of_cell? w _ ai)).trans ai),((HB.out.cell (World.block_lt_of_cell? w _ ah)).trans ah)⟩ (fun hHeld => ?_);refine with_tabW r26_Right.tab6 r26_Right.bits6 (fun HT_ HW_ => ?_)
      generalize wr.drew = w8 at HB aC aq ar ac ad ae af ag hHeld ⊢
      refine pure_ (i := 0) (N := some 14) (v := ?_) (a' := ?_) (bA 9 1) rfl rfl (any_of HT_.out (by kernel_rfl)) (fun _ _ _ h => h) (Or.inl ⟨by rfl,?_⟩) ?_ ?_
      rotate_left
      ·intro w'
       go_simp
       with_reducible rfl
      rotate_left
      ·simp only [Act.put,z1_,z2_,z3_,i64_w,i32_w]
       rfl
      refine pure_ (i := 1) (N := some 15) (v := ?_) (a' := ?_) (bA 9 3) rfl rfl (any_of HT_.out (by kernel_rfl)) (fun _ _ _ h => h) (Or.inl ⟨by rfl,?_⟩) ?_ ?_
      rotate_left
      ·intro w'
       go_simp
       with_reducible rfl
      rotate_left
      ·simp only [Act.put,z1_,z2_,z3_,i64_w,i32_w]
       rfl
      refine pure_ (i := 2) (N := some 16) (v := ?_) (a' := ?_) (bA 9 7) rfl rfl (any_of HT_.out (by kernel_rfl)) (fun _ _ _ h => h) (Or.inl ⟨by rfl,?_⟩) ?_ ?_
      rotate_left
      ·intro w'
       go_simp
       with_reducible rfl
      rotate_left
      ·simp only [Act.put,z1_,z2_,z3_,i64_w,i32_w]
       rfl
      refine pure_ (i := 3) (N := some 17) (v := ?_) (a' := ?_) (bA 9 15) rfl rfl (any_of HT_.out (by kernel_rfl)) (fun _ _ _ h => h) (Or.inl ⟨by rfl,?_⟩) ?_ ?_
      rotate_left
      ·intro w'
       go_simp
       with_reducible rfl
      rotate_left
      ·simp only [Act.put,z1_,z2_,z3_,i64_w,i32_w]
       rfl
      refine pure_ (i := 4) (N := some 18) (v := ?_) (a' := ?_) (bA 9 31) rfl rfl (any_of HT_.out (by kernel_rfl)) (fun _ _ _ h => h) (Or.inl ⟨by rfl,?_⟩) ?_ ?_
      rotate_left
      ·intro w'
       go_simp
       with_reducible rfl
      rotate_left
      ·simp only [Act.put,z1_,z2_,z3_,i64_w,i32_w]
       rfl
      refine pure_ (i := 5) (N := some 19) (v := ?_) (a' := ?_) (bA 9 63) rfl rfl (any_of HT_.out (by kernel_rfl)) (fun _ _ _ h => h) (Or.inl ⟨by rfl,?_⟩) ?_ ?_
      rotate_left
      ·intro w'
       go_simp
       with_reducible rfl
      rotate_left
      ·simp only [Act.put,z1_,z2_,z3_,i64_w,i32_w]
       rfl
      refine take_ (i := 6) (N := some 20) (v := ?_) (a' := ?_) (bA 9 127) rfl rfl (take_ofW HT_.out HW_.out (by kernel_rfl)) (fun _ _ _ h => h) (Or.inl ⟨by rfl,?_⟩) hHeld ?_ ?_
      rotate_left
      ·rintro w' ⟨s0,s1,s2,s3,s4⟩
       go_simp
       with_reducible rfl
      rotate_left
      ·simp only [Act.put,z1_,z2_,z3_,i64_w,i32_w]
       rfl
      refine one_ (i := 7) (N := some 21) (bA 9 255) rfl rfl (one_of HT_.out (by kernel_rfl)) (by decide) (fun K hK => ?_)
      refine goes_ Tryz.func38 (by kernel_rfl) rfl #[.slice (some ab) ay.length c0,.agg #[.int .i64 ((rd_T28 l0 aa).f0),.slice au ((rd_T28 l0 aa).f1).length av,.slice aw ((rd_T28 l0 aa).f2).length ax,.int .i64 ((rd_T28 l0 aa).f3),.int .i64 ((rd_T28 l0 aa).f4)]] (by rfl) rfl rfl (by (try simp only [z4_,z5_,z6_]);first|done|rfl|(simp only [z7_,z8_];rfl)) ?_
      with_reducible refine (r26_check.calls k1 _ _ ay ((rd_T28 l0 aa).f0) _ _ ((rd_T28 l0 aa).f1) _ _ ((rd_T28 l0 aa).f2) ((rd_T28 l0 aa).f3) ((rd_T28 l0 aa).f4) aH _ ?aM ?aN ?aO ?aP ?aQ ?aR A6.out).mono ?_
      (case aM => exact cM (Kd.C_below aC.out HB.out))
      (case aN => exact aL.out)
      (case aO => exact cM (Kd.C_below aq.out HB.out))
      (case aP => exact az.out)
      (case aQ => exact cM (Kd.C_below ar.out HB.out))
      (case aR => exact aA.out)
      rintro e bs ⟨rfl,hb⟩
      refine ⟨_,rfl,?_⟩
      have aI := aK (below_step (bM HB.out) hb)
      clear HB
      have HB := aI
      clear aI
      (try clear hb)
      refine hK.out _ _ ⟨((HB.out.cell (World.block_lt_of_cell? w _ al)).trans al),((HB.out.cell (World.block_lt_of_cell? w _ ak)).trans ak),((HB.out.cell (World.block_lt_of_cell? w _ aj)).trans aj),((HB.out.cell (World.block_lt_of_cell? w _ ai)).trans ai),((HB.out.cell (World.block_lt_of_cell? w _ ah)).trans ah)⟩ (fun hHeld => ?_)
      clear hK K
      refine norm_ (a' := ?_) ?_ ?_
      rotate_left
      ·show Act.put _ (some 21) _ = _
       simp only [Act.put,z1_,z2_,z3_,i64_w,i32_w]
       rfl
      refine pure_ (i := 8) (N := some 4) (v := ?_) (a' := ?_) (bA 9 511) rfl rfl (any_of HT_.out (by kernel_rfl)) (fun _ _ _ h => h) (Or.inl ⟨by rfl,?_⟩) ?_ ?_
      rotate_left
      ·intro w'
       go_simp
       with_reducible rfl
      rotate_left
      ·simp only [Act.put,z1_,z2_,z3_,i64_w,i32_w]
       rfl
      refine done_ (done_of HT_.out (by kernel_rfl)) ?_
      try go_wp2
      go_roundg k1
      case measure => have := bf.out;omega
      case rel => exact ⟨(wrap64 (aa + 1)),(by first|rfl|(simp;done)|(simp [*];done)),H',⟨by have := bf.out;omega⟩,⟨bM HB.out⟩⟩
     ·rw [if_neg c7] at H
      have a6 := beq_eq_false_iff_ne.mpr c7
      have a7 := bne_iff_ne.mpr c7
      obtain rfl := Option.some.inj H
      try go_wp2
      have aI := aK (below_drew1 HB.out)
      clear HB
      have HB := aI
      clear aI
      have bb : (aa : Int) ≤ ((l0.length : Int) : Int) := dA
      obtain ⟨bo,aS,_,a1,_⟩ := info_parts info28
      have aG : l0.length ≤ c0 := be.out
      have a2 : Kd.C k28 _ A0 l0.length l0 := a3.out
      have aU := cut_to (P := Tryz.prog) 22 28 .i64 Tryz.underlying22 aS A0 l0.length c0 aa (dA) bb aG
      have aV := Kd.C_take (m := (aa : Int).toNat) a2 (by omega)
      have aW : ay.length = (aa : Int).toNat := (by rw [aF.out,List.length_take];omega)
      rw [← aF.out] at aV
      rw [← aW] at aU
      have aC := aK aV
      have aL := aK (show ay.length ≤ c0 from by omega)
      clear aV a2 aG aS a1
      have bp := aK aW
      clear aW
      replace bb := eq_true bb
      have aD : 0 ≤ (aa : Int) := dA
      have aE : aa < (l0.length : Int) := dA
      obtain ⟨ab,au,av,aw,ax,aT,ac,ad,ae,af,ag,am,an,ao,ap⟩ := at_T28 a3.out aa aD aE
      have ah := ag
      have ai := af
      have aj := ae
      have ak := ad
      have al := ac
      cases aT
      replace ac := xM HB ac
      replace ad := xM HB ad
      replace ae := xM HB ae
      replace af := xM HB af
      replace ag := xM HB ag
      have aq := aK an
      have az := aK am
      clear an am
      have ar := aK ap
      have aA := aK ao
      clear ap ao
      replace aD := eq_true aD
      replace aE := eq_true aE
      refine start_ (n := 9) (S := fun w' => w'.cell? (ab.add ((aa).toNat * 5)) = some (.int .i64 ((rd_T28 l0 aa).f0)) ∧ w'.cell? ⟨(ab.add ((aa).toNat * 5)).block,(ab.add ((aa).toNat * 5)).off + 1,none⟩ = some (.slice au ((rd_T28 l0 aa).f1).length av) ∧ w'.cell? ⟨(ab.add ((aa).toNat * 5)).block,(ab.add ((aa).toNat * 5)).off + 2,none⟩ = some (.slice aw ((rd_T28 l0 aa).f2).length ax) ∧ w'.cell? ⟨(ab.add ((aa).toNat * 5)).block,(ab.add ((aa).toNat * 5)).off + 3,none⟩ = some (.int .i64 ((rd_T28 l0 aa).f3)) ∧ w'.cell? ⟨(ab.add ((aa).toNat * 5)).block,(ab.add ((aa).toNat * 5)).off + 4,none⟩ = some (.int .i64 ((rd_T28 l0 aa).f4))) (ds := []) (bA 9 0) (by kernel_rfl) rfl rfl ⟨((HB.out.cell (World.block_lt_of_cell? w _ al)).trans al),((HB.out.cell (World.block_lt_of_cell? w _ ak)).trans ak),((HB.out.cell (World.block_lt_of_cell? w _ aj)).trans aj),((HB.out.cell (World.block_lt_of_cell? w _ ai)).trans ai),((HB.out.cell (World.block_lt_of_cell? w _ ah)).trans ah)⟩ (fun hHeld => ?_);refine with_tabW r26_Right.tab6 r26_Right.bits6 (fun HT_ HW_ => ?_)
      generalize wr.drew = w11 at HB aC aq ar ac ad ae af ag hHeld ⊢
      refine pure_ (i := 0) (N := some 14) (v := ?_) (a' := ?_) (bA 9 1) rfl rfl (any_of HT_.out (by kernel_rfl)) (fun _ _ _ h => h) (Or.inl ⟨by rfl,?_⟩) ?_ ?_
      rotate_left
      ·intro w'
       go_simp
       with_reducible rfl
      rotate_left
      ·simp only [Act.put,z1_,z2_,z3_,i64_w,i32_w]
       rfl
      refine pure_ (i := 1) (N := some 15) (v := ?_) (a' := ?_) (bA 9 3) rfl rfl (any_of HT_.out (by kernel_rfl)) (fun _ _ _ h => h) (Or.inl ⟨by rfl,?_⟩) ?_ ?_
      rotate_left
      ·intro w'
       go_simp
       with_reducible rfl
      rotate_left
      ·simp only [Act.put,z1_,z2_,z3_,i64_w,i32_w]
       rfl
      refine pure_ (i := 2) (N := some 16) (v := ?_) (a' := ?_) (bA 9 7) rfl rfl (any_of HT_.out (by kernel_rfl)) (fun _ _ _ h => h) (Or.inl ⟨by rfl,?_⟩) ?_ ?_
      rotate_left
      ·intro w'
       go_simp
       with_reducible rfl
      rotate_left
      ·simp only [Act.put,z1_,z2_,z3_,i64_w,i32_w]
       rfl
      refine pure_ (i := 3) (N := some 17) (v := ?_) (a' := ?_) (bA 9 15) rfl rfl (any_of HT_.out (by kernel_rfl)) (fun _ _ _ h => h) (Or.inl ⟨by rfl,?_⟩) ?_ ?_
      rotate_left
      ·intro w'
       go_simp
       with_reducible rfl
      rotate_left
      ·simp only [Act.put,z1_,z2_,z3_,i64_w,i32_w]
       rfl
      refine pure_ (i := 4) (N := some 18) (v := ?_) (a' := ?_) (bA 9 31) rfl rfl (any_of HT_.out (by kernel_rfl)) (fun _ _ _ h => h) (Or.inl ⟨by rfl,?_⟩) ?_ ?_
      rotate_left
      ·intro w'
       go_simp
       with_reducible rfl
      rotate_left
      ·simp only [Act.put,z1_,z2_,z3_,i64_w,i32_w]
       rfl
      refine pure_ (i := 5) (N := some 19) (v := ?_) (a' := ?_) (bA 9 63) rfl rfl (any_of HT_.out (by kernel_rfl)) (fun _ _ _ h => h) (Or.inl ⟨by rfl,?_⟩) ?_ ?_
      rotate_left
      ·intro w'
       go_simp
       with_reducible rfl
      rotate_left
      ·simp only [Act.put,z1_,z2_,z3_,i64_w,i32_w]
       rfl
      refine take_ (i := 6) (N := some 20) (v := ?_) (a' := ?_) (bA 9 127) rfl rfl (take_ofW HT_.out HW_.out (by kernel_rfl)) (fun _ _ _ h => h) (Or.inl ⟨by rfl,?_⟩) hHeld ?_ ?_
      rotate_left
      ·rintro w' ⟨s0,s1,s2,s3,s4⟩
       go_simp
       with_reducible rfl
      rotate_left
      ·simp only [Act.put,z1_,z2_,z3_,i64_w,i32_w]
       rfl
      refine one_ (i := 7) (N := some 21) (bA 9 255) rfl rfl (one_of HT_.out (by kernel_rfl)) (by decide) (fun K hK => ?_)
      refine goes_ Tryz.func38 (by kernel_rfl) rfl #[.slice (some ab) ay.length c0,.agg #[.int .i64 ((rd_T28 l0 aa).f0),.slice au ((rd_T28 l0 aa).f1).length av,.slice aw ((rd_T28 l0 aa).f2).length ax,.int .i64 ((rd_T28 l0 aa).f3),.int .i64 ((rd_T28 l0 aa).f4)]] (by rfl) rfl rfl (by (try simp only [z4_,z5_,z6_]);first|done|rfl|(simp only [z7_,z8_];rfl)) ?_
      with_reducible refine (r26_check.calls k1 _ _ ay ((rd_T28 l0 aa).f0) _ _ ((rd_T28 l0 aa).f1) _ _ ((rd_T28 l0 aa).f2) ((rd_T28 l0 aa).f3) ((rd_T28 l0 aa).f4) aH _ ?aM ?aN ?aO ?aP ?aQ ?aR A6.out).mono ?_
      (case aM => exact cM (Kd.C_below aC.out HB.out))
      (case aN => exact aL.out)
      (case aO => exact cM (Kd.C_below aq.out HB.out))
      (case aP => exact az.out)
      (case aQ => exact cM (Kd.C_below ar.out HB.out))
      (case aR => exact aA.out)
      rintro e bu ⟨rfl,hb⟩
      refine ⟨_,rfl,?_⟩
      have aI := aK (below_step (bM HB.out) hb)
      clear HB
      have HB := aI
      clear aI
      (try clear hb)
      refine hK.out _ _ ⟨((HB.out.cell (World.block_lt_of_cell? w _ al)).trans al),((HB.out.cell (World.block_lt_of_cell? w _ ak)).trans ak),((HB.out.cell (World.block_lt_of_cell? w _ aj)).trans aj),((HB.out.cell (World.block_lt_of_cell? w _ ai)).trans ai),((HB.out.cell (World.block_lt_of_cell? w _ ah)).trans ah)⟩ (fun hHeld => ?_)
      clear hK K
      refine norm_ (a' := ?_) ?_ ?_
      rotate_left
      ·show Act.put _ (some 21) _ = _
       simp only [Act.put,z1_,z2_,z3_,i64_w,i32_w]
       rfl
      refine pure_ (i := 8) (N := some 4) (v := ?_) (a' := ?_) (bA 9 511) rfl rfl (any_of HT_.out (by kernel_rfl)) (fun _ _ _ h => h) (Or.inl ⟨by rfl,?_⟩) ?_ ?_
      rotate_left
      ·intro w'
       go_simp
       with_reducible rfl
      rotate_left
      ·simp only [Act.put,z1_,z2_,z3_,i64_w,i32_w]
       rfl
      refine done_ (done_of HT_.out (by kernel_rfl)) ?_
      try go_wp2
      go_ret
      exact ⟨by first|rfl|(simp [errW_none,errW_some] <;> rfl)|(simp [*,errW_none,errW_some] <;> rfl),bM HB.out⟩
    ·rw [if_neg c3] at H
     have a4 := decide_eq_false c3
     clear c3
     obtain rfl := Option.some.inj H
     go_wp2
     go_ret
     exact ⟨by first|rfl|(simp [errW_none,errW_some] <;> rfl)|(simp [*,errW_none,errW_some] <;> rfl),bM HB.out⟩
end Go.Proofs.YtgadbpljlpclnaaGreatDoor.H
