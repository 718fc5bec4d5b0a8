import Derived.Test.YtmgliocboeifdaaDoorKx0
import Derived.Test.YtmgliocboeifdaaDoorKx2
import Derived.Test.YtmgliocboeifdaaDoorKx3
import Derived.Test.YtmgliocboeifdaaDoorKx4
import Derived.Test.YtmgliocboeifdaaDoorKx5
import Derived.Test.YtmgliocboeifdaaDoorKx6
import Derived.Test.YtmgliocboeifdaaDoorKx7
import Derived.Test.YtmgliocboeifdaaDoorKx9
import Derived.Test.YtmgliocboeifdaaDoorKx14
namespace Go.Proofs.YtmgliocboeifdaaDoor.K
open Go.RowKit Go.Proofs.YtmgliocboeifdaaDoorW.PrintWords Go.Proofs.YtmgliocboeifdaaDoorW.PrintLast Go.Proofs.YtmgliocboeifdaaDoorW.PrintMore
set_option maxHeartbeats 4000000
set_option maxRecDepth 100000
attribute [local go_sem] max2_int min2_int max_two min_two max_three min_three max_four min_four
set_option linter.unusedVariables false
set_option linter.unusedSimpArgs false

/-! ### manifest_Right: function 21 -/
def manifest_Right.l0 : Nat → List (S37) → Int → Int → List Int → List Int → Int → Option (Int)
|0,_,_,_,_,_,_ => none
|k + 1,x8,x9,x10,x356000,x356001,x356002 => if x10 < x9 then (if 0 ≤ x10 then (if x10 < (x8.length : Int) then ((manifest_check.f k x356000 x356001 x356002 x10 ((rd_T37 x8 x10).f0) ((rd_T37 x8 x10).f1) ((rd_T37 x8 x10).f2) ((rd_T37 x8 x10).f3) ((rd_T37 x8 x10).f4) ((rd_T37 x8 x10).f5)).bind fun t358 => (if t358 = 0 then ((manifest_state_after.f k x356000 x356001 x356002 ((rd_T37 x8 x10).f0) ((rd_T37 x8 x10).f1) ((rd_T37 x8 x10).f2) ((rd_T37 x8 x10).f3) ((rd_T37 x8 x10).f4) ((rd_T37 x8 x10).f5)).bind fun bt359 => (manifest_Right.l0 k x8 x9 (wrap64 (x10 + 1)) bt359.1 bt359.2.1 bt359.2.2)) else (some t358))) else (none)) else (none)) else (some 0)
def manifest_Right.f (k : Nat) (l0 : List (S37)) : Option (Int) := manifest_Right.l0 k l0 (l0.length : Int) 0 ([] : List Int) ([] : List Int) 0
theorem manifest_Right.mono_l : ∀ k, (∀ y0 y1 y2 y3 y4 y5, LeO (manifest_Right.l0 k y0 y1 y2 y3 y4 y5) (manifest_Right.l0 (k + 1) y0 y1 y2 y3 y4 y5))
|0 => fun _ _ _ _ _ _ r h => by simp [manifest_Right.l0] at h
|k + 1 => by
  have ih0 := manifest_Right.mono_l k
  ·intro y0 y1 y2 y3 y4 y5
   unfold manifest_Right.l0
   repeat' (with_reducible first|exact ih0 _ _ _ _ _ _|exact manifest_check.mono _ _ _ _ _ _ _ _ _ _ _|exact manifest_state_after.mono _ _ _ _ _ _ _ _ _ _|exact LeO.refl _|exact LeO.none _|refine LeO.ite ?_ ?_|refine LeO.bind ?_ (fun _ => ?_))
theorem manifest_Right.mono : ∀ a0 k, LeO (manifest_Right.f k a0) (manifest_Right.f (k + 1) a0) := by
 intro a0 k
 have ih0 := manifest_Right.mono_l k
 unfold manifest_Right.f
 repeat' first
  |(with_reducible exact ih0 _ _ _ _ _ _)
  |(with_reducible exact manifest_check.mono _ _ _ _ _ _ _ _ _ _ _)
  |(with_reducible exact manifest_state_after.mono _ _ _ _ _ _ _ _ _ _)
  |(with_reducible exact LeO.refl _)
  |(with_reducible exact LeO.none _)
  |(with_reducible refine LeO.ite ?_ ?_)
  |(with_reducible refine LeO.bind ?_ (fun _ => ?_))
  |exact ih0 _ _ _ _ _ _
  |exact manifest_check.mono _ _ _ _ _ _ _ _ _ _ _
  |exact manifest_state_after.mono _ _ _ _ _ _ _ _ _ _
  |exact LeO.none _
  |refine LeO.ite ?_ ?_
  |refine LeO.bind ?_ (fun _ => ?_)
theorem manifest_Right.calls (k : Nat) (A0 : Option Addr) (c0 : Nat) (l0 : List (S37)) (r : Int) (w : World) (bP : Kd.C k37 w A0 l0.length l0) (bQ : l0.length ≤ c0) (h : manifest_Right.f k l0 = some r) :
  Calls Tryd.prog 21 #[.slice A0 l0.length c0] w fun e w' => e = .returned (.int .i64 r) ∧ Below w.heap.size w w' := by
 have b3 := Tryd.underlying48
 have b4 := Tryd.underlying37
 have bR := aK bP
 have b8 := aK bQ
 clear bP bQ
 have HB := aK (Below.refl w.heap.size w)
 have H : (manifest_Right.l0 k l0 (l0.length : Int) 0 ([] : List Int) ([] : List Int) 0) = some r := h
 clear h
 have H' := aK H
 clear H
 go_enter Tryd.func21,Tryd.ntmps21
 go_wp2_with (first|((with_reducible refine gate_dst (N := 3) rfl ?_);refine box_event ?hg (N := 3) ?hd (cs := #[.slice none 0 0,.slice none 0 0,.int .i64 0]) (t := 48) ?hr ?_;(case hd => rfl);(case hg => rfl);(case hr => first|(go_simp;done)|(go_simp;rfl));intro aq hg w2 hbox hb;have ah := aK (hbox);have bs := aK ((by rw [hg];exact (below_size (bM HB.out)) : w.heap.size ≤ aq));have bS := Ge.mk bs.out;have be := aK ((by rw [hg];exact (below_size (bM HB.out)) : w.heap.size ≤ aq));have bT := Ge.mk be.out;replace HB := aK (below_step (bM HB.out) hb);clear hb hbox hg;obtain ⟨bh,bi,bj,bk,bm,bn⟩ := bk3_ ah.out))
 go_loopg [10] k (fun kq b5 w' => ∃ (aa : Int) (af : List Int) (ad : List Int) (ag : Int) (aG : Value) (aH : Value),b5 = .int .i64 aa ∧ Aside0 (manifest_Right.l0 kq l0 (l0.length : Int) aa af ad ag = some r) ∧ Aside0 (kq ≤ k) ∧ Aside0 (Kd.R (Kd.int .i64) 3 w' w.heap.size (fun k_ => some k_ ≠ (aH : Value).ownBlock) aG af) ∧ Aside0 (Kd.R (Kd.int .i64) 3 w' w.heap.size (fun k_ => some k_ ≠ (aG : Value).ownBlock) aH ad) ∧ Aside0 (w'.heap[aq]? = some (.cells #[aG,aH,.int .i64 ag] 48 (0,0))) ∧ Aside0 (Below w.heap.size w w'))
 case atStart => exact ⟨(0),(([] : List Int)),(([] : List Int)),(0),(.slice none 0 0),(.slice none 0 0),(by first|rfl|(simp;done)|(simp [*];done)),H',⟨Nat.le_refl _⟩,⟨by first|exact Kd.R_nil _ _ _ _ _|exact Kd.N_nil _ _ _ _ _|exact Kd.V_nil _ _ _ _ _|exact Kd.Q_nil _ _ _ _ _|exact Kd.S_nil _ _ _ _ _⟩,⟨by first|exact Kd.R_nil _ _ _ _ _|exact Kd.N_nil _ _ _ _ _|exact Kd.V_nil _ _ _ _ _|exact Kd.Q_nil _ _ _ _ _|exact Kd.S_nil _ _ _ _ _⟩,⟨by refine kO ?_;refine blk_put (cs := #[.slice none 0 0,.slice none 0 0,.int .i64 0]) ?_ 2 _ rfl;refine kO ?_;refine blk_put (cs := #[.slice none 0 0,.slice none 0 0,.int .i64 0]) ?_ 1 _ rfl;refine kO ?_;refine blk_put (cs := #[.slice none 0 0,.slice none 0 0,.int .i64 0]) ?_ 0 _ rfl;refine kO ?_;exact ah.out⟩,⟨bG HB.out⟩⟩
 case round =>
  clear H'
  try clear p2
  try clear bh
  try clear bi
  try clear bj
  try clear bk
  try clear bm
  try clear bn
  obtain ⟨aa,af,ad,ag,aG,aH,rfl,HA,bU,ab,ac,ah,HB⟩ := hrel
  cases gk with
 |zero => exact absurd HA.out (by simp [manifest_Right.l0])
 |succ k1 =>
   have H := HA.out
   clear HA
   simp only [manifest_Right.l0] at H
   by_cases c4 : aa < (l0.length : Int)
   ·rw [if_pos c4] at H
    have bC := decide_eq_true c4
    clear c4
    obtain ⟨c5,H⟩ := iS H
    have b6 := decide_eq_true c5
    clear c5
    obtain ⟨c6,H⟩ := iS H
    have b7 := decide_eq_true c6
    clear c6
    replace H := Option.bind_eq_some_iff.mp H
    obtain ⟨bo,bV,H⟩ := H
    have A7 := aK bV
    clear bV
    by_cases c8 : bo = 0
    ·rw [if_pos c8] at H
     have bD := beq_iff_eq.mpr c8
     have bE := bne_eq_false_iff_eq.mpr c8
     clear c8
     replace H := Option.bind_eq_some_iff.mp H
     obtain ⟨⟨aR,a3,a8⟩,bW,H⟩ := H
     replace H : (manifest_Right.l0 k1 l0 (l0.length : Int) (wrap64 (aa + 1)) aR a3 a8) = some r := H
     have A9 := aK bW
     clear bW
     have H' := aK H
     clear H
     have a4 : 0 ≤ (aa : Int) := dA
     have a5 : aa < (l0.length : Int) := dA
     obtain ⟨bu,aj,ak,al,am,ao,ap,bp,ar,au,av,aw,ax,ay,az,aA,aB,aC,aD,aE⟩ := at_T37 bR.out aa a4 a5
     cases bp
     replace ar := xM HB ar
     replace au := xM HB au
     replace av := xM HB av
     replace aw := xM HB aw
     replace ax := xM HB ax
     replace ay := xM HB ay
     have aI := aK aA
     have aJ := aK az
     clear aA az
     have aL := aK aC
     have aM := aK aB
     clear aC aB
     have aN := aK aE
     have aO := aK aD
     clear aE aD
     replace a4 := eq_true a4
     replace a5 := eq_true a5
     go_wp2_with (first|((with_reducible refine gate_dst (N := 5) rfl ?_);refine box_event ?hg (N := 5) ?hd (cs := #[.int .i64 0,.int .i64 0,.int .i64 0,.slice none 0 0,.slice none 0 0,.slice none 0 0]) (t := 37) ?hr ?_;(case hd => rfl);(case hg => rfl);(case hr => first|(go_simp;done)|(go_simp;rfl));intro ae hg b9 hbox hb;replace ab := aK (Kd.R_below (rM ab.out) hb);replace ac := aK (Kd.R_below (rM ac.out) hb);have an := aK (hbox);have a9 := aK ((by rw [hg];exact (below_size (bG HB.out)) : w.heap.size ≤ ae));have bv := Ge.mk a9.out;have a7 := aK ((by rw [hg];exact (below_size (bG HB.out)) : w.heap.size ≤ ae));have bx := Ge.mk a7.out;replace HB := aK (below_step (bG HB.out) hb);have ai := aK (nbL ah.out hg);have aF := aK (nbR ah.out hg);replace ah := aK (blk_below (kM ah.out) hb);clear hb hbox hg;have bX := aF.out;have bY := ai.out;obtain ⟨_,_,_,_,_,_,_,_,_,_,_,_⟩ := bk6_ an.out;obtain ⟨_,_,_,_,_,_⟩ := bk3_ ah.out;obtain ⟨a6,aS,bF⟩ := Kd.R_slice ab.out;subst bF;obtain ⟨aT,aQ,bH⟩ := Kd.R_slice ac.out;subst bH)|((with_reducible refine gate_callee (f := 41) rfl ?_);refine gL 18 Tryd.func41 #[.agg #[.slice a6 af.length aS,.slice aT ad.length aQ,.int .i64 ag],.int .i64 aa,.agg #[.int .i64 ((rd_T37 l0 aa).f0),.int .i64 ((rd_T37 l0 aa).f1),.int .i64 ((rd_T37 l0 aa).f2),.slice aj ((rd_T37 l0 aa).f3).length ak,.slice al ((rd_T37 l0 aa).f4).length am,.slice ao ((rd_T37 l0 aa).f5).length ap]] ?_;(with_reducible refine (manifest_check.calls k1 _ _ af _ _ ad ag aa ((rd_T37 l0 aa).f0) ((rd_T37 l0 aa).f1) ((rd_T37 l0 aa).f2) _ _ ((rd_T37 l0 aa).f3) _ _ ((rd_T37 l0 aa).f4) _ _ ((rd_T37 l0 aa).f5) bo _ ?aU ?aV ?aW ?aX ?aY ?aZ ?a0 ?a1 ?a2 ?aP A7.out).mono ?_);(case aU => refine (Kd.R_reads' (e := 3) (base := w.heap.size) (ok := fun k_ => some k_ ≠ (.slice aT ad.length aQ : Value).ownBlock) (n := af.length) (c := aS) ?_).2.2;exact (by (with_reducible repeat (first|apply Kd.R_alloc|apply Kd.R_drewN|apply Kd.R_drew));exact (Kd.R_mono (Kd.R_far (p := ⟨ae,5,none⟩) (Kd.R_far (p := ⟨ae,4,none⟩) (Kd.R_far (p := ⟨ae,3,none⟩) (Kd.R_far (p := ⟨ae,2,none⟩) (Kd.R_far (p := ⟨ae,1,none⟩) (Kd.R_far (p := ⟨ae,0,none⟩) (Kd.R_types ab.out an.out (by decide)) (fun _ hk => hk.2) (.int .i64 ((rd_T37 l0 aa).f0))) (fun _ hk => hk.2) (.int .i64 ((rd_T37 l0 aa).f1))) (fun _ hk => hk.2) (.int .i64 ((rd_T37 l0 aa).f2))) (fun _ hk => hk.2) (.slice aj ((rd_T37 l0 aa).f3).length ak)) (fun _ hk => hk.2) (.slice al ((rd_T37 l0 aa).f4).length am)) (fun _ hk => hk.2) (.slice ao ((rd_T37 l0 aa).f5).length ap)) (fun _ h_ => h_.1))));(case aV => exact (Kd.R_reads' ab.out).2.1);(case aW => refine (Kd.R_reads' (e := 3) (base := w.heap.size) (ok := fun k_ => some k_ ≠ (.slice a6 af.length aS : Value).ownBlock) (n := ad.length) (c := aQ) ?_).2.2;exact (by (with_reducible repeat (first|apply Kd.R_alloc|apply Kd.R_drewN|apply Kd.R_drew));exact (Kd.R_mono (Kd.R_far (p := ⟨ae,5,none⟩) (Kd.R_far (p := ⟨ae,4,none⟩) (Kd.R_far (p := ⟨ae,3,none⟩) (Kd.R_far (p := ⟨ae,2,none⟩) (Kd.R_far (p := ⟨ae,1,none⟩) (Kd.R_far (p := ⟨ae,0,none⟩) (Kd.R_types ac.out an.out (by decide)) (fun _ hk => hk.2) (.int .i64 ((rd_T37 l0 aa).f0))) (fun _ hk => hk.2) (.int .i64 ((rd_T37 l0 aa).f1))) (fun _ hk => hk.2) (.int .i64 ((rd_T37 l0 aa).f2))) (fun _ hk => hk.2) (.slice aj ((rd_T37 l0 aa).f3).length ak)) (fun _ hk => hk.2) (.slice al ((rd_T37 l0 aa).f4).length am)) (fun _ hk => hk.2) (.slice ao ((rd_T37 l0 aa).f5).length ap)) (fun _ h_ => h_.1))));(case aX => exact (Kd.R_reads' ac.out).2.1);(case aY => exact Kd.C_below aI.out (bG HB.out));(case aZ => exact aJ.out);(case a0 => exact Kd.C_below aL.out (bG HB.out));(case a1 => exact aM.out);(case a2 => exact Kd.C_below aN.out (bG HB.out));(case aP => exact aO.out);rintro e ca ⟨rfl,hb⟩;refine ⟨_,rfl,?_⟩;replace ab := aK (Kd.R_below (by (with_reducible repeat (first|apply Kd.R_alloc|apply Kd.R_drewN|apply Kd.R_drew));exact (Kd.R_mono (Kd.R_far (p := ⟨ae,5,none⟩) (Kd.R_far (p := ⟨ae,4,none⟩) (Kd.R_far (p := ⟨ae,3,none⟩) (Kd.R_far (p := ⟨ae,2,none⟩) (Kd.R_far (p := ⟨ae,1,none⟩) (Kd.R_far (p := ⟨ae,0,none⟩) (Kd.R_types ab.out an.out (by decide)) (fun _ hk => hk.2) (.int .i64 ((rd_T37 l0 aa).f0))) (fun _ hk => hk.2) (.int .i64 ((rd_T37 l0 aa).f1))) (fun _ hk => hk.2) (.int .i64 ((rd_T37 l0 aa).f2))) (fun _ hk => hk.2) (.slice aj ((rd_T37 l0 aa).f3).length ak)) (fun _ hk => hk.2) (.slice al ((rd_T37 l0 aa).f4).length am)) (fun _ hk => hk.2) (.slice ao ((rd_T37 l0 aa).f5).length ap)) (fun _ h_ => h_.1))) hb);replace ac := aK (Kd.R_below (by (with_reducible repeat (first|apply Kd.R_alloc|apply Kd.R_drewN|apply Kd.R_drew));exact (Kd.R_mono (Kd.R_far (p := ⟨ae,5,none⟩) (Kd.R_far (p := ⟨ae,4,none⟩) (Kd.R_far (p := ⟨ae,3,none⟩) (Kd.R_far (p := ⟨ae,2,none⟩) (Kd.R_far (p := ⟨ae,1,none⟩) (Kd.R_far (p := ⟨ae,0,none⟩) (Kd.R_types ac.out an.out (by decide)) (fun _ hk => hk.2) (.int .i64 ((rd_T37 l0 aa).f0))) (fun _ hk => hk.2) (.int .i64 ((rd_T37 l0 aa).f1))) (fun _ hk => hk.2) (.int .i64 ((rd_T37 l0 aa).f2))) (fun _ hk => hk.2) (.slice aj ((rd_T37 l0 aa).f3).length ak)) (fun _ hk => hk.2) (.slice al ((rd_T37 l0 aa).f4).length am)) (fun _ hk => hk.2) (.slice ao ((rd_T37 l0 aa).f5).length ap)) (fun _ h_ => h_.1))) hb);replace ah := aK (blk_below (g := aq) (o := .cells #[.slice a6 af.length aS,.slice aT ad.length aQ,.int .i64 ag] 48 (0,0)) (by refine kO ?_;refine blk_far ?_ ai.out _;refine kO ?_;refine blk_far ?_ ai.out _;refine kO ?_;refine blk_far ?_ ai.out _;refine kO ?_;refine blk_far ?_ ai.out _;refine kO ?_;refine blk_far ?_ ai.out _;refine kO ?_;refine blk_far ?_ ai.out _;refine kO ?_;exact ah.out) hb);replace an := aK (blk_below (g := ae) (o := .cells #[.int .i64 ((rd_T37 l0 aa).f0),.int .i64 ((rd_T37 l0 aa).f1),.int .i64 ((rd_T37 l0 aa).f2),.slice aj ((rd_T37 l0 aa).f3).length ak,.slice al ((rd_T37 l0 aa).f4).length am,.slice ao ((rd_T37 l0 aa).f5).length ap] 37 (0,0)) (by refine kO ?_;refine blk_put (cs := #[.int .i64 ((rd_T37 l0 aa).f0),.int .i64 ((rd_T37 l0 aa).f1),.int .i64 ((rd_T37 l0 aa).f2),.slice aj ((rd_T37 l0 aa).f3).length ak,.slice al ((rd_T37 l0 aa).f4).length am,.slice none 0 0]) ?_ 5 _ rfl;refine kO ?_;refine blk_put (cs := #[.int .i64 ((rd_T37 l0 aa).f0),.int .i64 ((rd_T37 l0 aa).f1),.int .i64 ((rd_T37 l0 aa).f2),.slice aj ((rd_T37 l0 aa).f3).length ak,.slice none 0 0,.slice none 0 0]) ?_ 4 _ rfl;refine kO ?_;refine blk_put (cs := #[.int .i64 ((rd_T37 l0 aa).f0),.int .i64 ((rd_T37 l0 aa).f1),.int .i64 ((rd_T37 l0 aa).f2),.slice none 0 0,.slice none 0 0,.slice none 0 0]) ?_ 3 _ rfl;refine kO ?_;refine blk_put (cs := #[.int .i64 ((rd_T37 l0 aa).f0),.int .i64 ((rd_T37 l0 aa).f1),.int .i64 0,.slice none 0 0,.slice none 0 0,.slice none 0 0]) ?_ 2 _ rfl;refine kO ?_;refine blk_put (cs := #[.int .i64 ((rd_T37 l0 aa).f0),.int .i64 0,.int .i64 0,.slice none 0 0,.slice none 0 0,.slice none 0 0]) ?_ 1 _ rfl;refine kO ?_;refine blk_put (cs := #[.int .i64 0,.int .i64 0,.int .i64 0,.slice none 0 0,.slice none 0 0,.slice none 0 0]) ?_ 0 _ rfl;refine kO ?_;exact an.out) hb);replace HB := aK (below_step (bG HB.out) hb);(try clear hb);(try clear hk);obtain ⟨_,_,_,_,_,_⟩ := bk3_ ah.out;obtain ⟨_,_,_,_,_,_,_,_,_,_,_,_⟩ := bk6_ an.out)|((with_reducible refine gate_callee (f := 42) rfl ?_);refine gL 24 Tryd.func42 #[.agg #[.slice a6 af.length aS,.slice aT ad.length aQ,.int .i64 ag],.agg #[.int .i64 ((rd_T37 l0 aa).f0),.int .i64 ((rd_T37 l0 aa).f1),.int .i64 ((rd_T37 l0 aa).f2),.slice aj ((rd_T37 l0 aa).f3).length ak,.slice al ((rd_T37 l0 aa).f4).length am,.slice ao ((rd_T37 l0 aa).f5).length ap]] ?_;(with_reducible refine (manifest_state_after.calls k1 (fun k_ => some k_ = (.slice a6 af.length aS : Value).ownBlock) (.slice a6 af.length aS) af (fun k_ => some k_ = (.slice aT ad.length aQ : Value).ownBlock) (.slice aT ad.length aQ) ad ag ((rd_T37 l0 aa).f0) ((rd_T37 l0 aa).f1) ((rd_T37 l0 aa).f2) (fun k_ => k_ < w.heap.size) _ _ ((rd_T37 l0 aa).f3) _ _ ((rd_T37 l0 aa).f4) _ _ ((rd_T37 l0 aa).f5) aR a3 a8 w _ ?aU ?aV ?aW ?aX ?aY ?aZ ?a0 ?a1 ?a2 ?aP A9.out).mono ?_);(case aU => repeat (first|(with_reducible first|exact HB.out|apply below_alloc|apply pw_below_drewN|apply below_drew1|refine below_set ?_ be.out|refine below_set ?_ a7.out)|exact HB.out));(case aV => exact Kd.R_tight rfl ab.out);(case aW => exact fun k_ e_ => (ab.out.1 k_ e_.symm));(case aX => exact Kd.R_tight rfl ac.out);(case aY => exact fun k_ e_ => (ac.out.1 k_ e_.symm));(case aZ => exact Kd.V_mono (Kd.V_mk aJ.out (Kd.F_below (Kd.C_F (Kd.heap_int .i64) aI.out) (bG HB.out))) (fun k_ hk_ => ⟨hk_,fun e_ => Nat.not_le.2 hk_ (Kd.R_base ab.out k_ e_.symm),fun e_ => Nat.not_le.2 hk_ (Kd.R_base ac.out k_ e_.symm)⟩));(case a0 => exact Kd.C_kept_came (Kd.heap_int .i64) aL.out (bG HB.out) (fun k_ hs_ => Or.elim hs_ (fun e_ => (fun e_ => Kd.R_base ab.out k_ e_.symm) e_) (fun e_ => (fun e_ => Kd.R_base ac.out k_ e_.symm) e_)));(case a1 => exact aM.out);(case a2 => exact Kd.C_kept_came Kd.heap_string aN.out (bG HB.out) (fun k_ hs_ => Or.elim hs_ (fun e_ => (fun e_ => Kd.R_base ab.out k_ e_.symm) e_) (fun e_ => (fun e_ => Kd.R_base ac.out k_ e_.symm) e_)));(case aP => exact aO.out);rintro e cb ⟨bI,bJ,rfl,bZ,b0,hb,hkp⟩;refine ⟨_,rfl,?_⟩;replace ah := aK (blk_kept (kM ah.out) hkp (fun hs_ => Or.elim hs_ (fun e_ => (fun e_ => (Kd.R_ne ab.out ah.out (by decide)) e_) e_) (fun e_ => (fun e_ => (Kd.R_ne ac.out ah.out (by decide)) e_) e_)));replace an := aK (blk_kept (kM an.out) hkp (fun hs_ => Or.elim hs_ (fun e_ => (fun e_ => (Kd.R_ne ab.out an.out (by decide)) e_) e_) (fun e_ => (fun e_ => (Kd.R_ne ac.out an.out (by decide)) e_) e_)));have bf := aK (Kd.R_mono (ok' := fun k_ => some k_ ≠ (bJ : Value).ownBlock) bZ (fun k_ hk_ => hk_.2));have bg := aK (Kd.R_mono (ok' := fun k_ => some k_ ≠ (bI : Value).ownBlock) b0 (fun k_ hk_ => hk_.2));replace HB := aK (hb);(try clear hb);(try clear hkp);(try clear bZ);(try clear b0);obtain ⟨ba,bb,bK⟩ := Kd.R_slice bf.out;subst bK;obtain ⟨_,_,_,_,_,_⟩ := bk3_ ah.out;obtain ⟨bc,bd,bL⟩ := Kd.R_slice bg.out;subst bL))
     go_roundg k1
     case measure => have := bU.out;omega
     case rel => exact ⟨(wrap64 (aa + 1)),(aR),(a3),(a8),(.slice ba aR.length bb),(.slice bc a3.length bd),(by first|rfl|(simp;done)|(simp [*];done)),H',⟨by have := bU.out;omega⟩,⟨by (with_reducible repeat (first|apply Kd.R_alloc|apply Kd.R_drewN|apply Kd.R_drew));exact Kd.R_mono (Kd.R_far (p := ⟨aq,2,none⟩) (Kd.R_far (p := ⟨aq,1,none⟩) (Kd.R_far (p := ⟨aq,0,none⟩) (Kd.R_types bf.out ah.out (by decide)) (fun _ hk => hk.2) (.slice ba aR.length bb)) (fun _ hk => hk.2) (.slice bc a3.length bd)) (fun _ hk => hk.2) (.int .i64 a8)) (fun _ hk => hk.1)⟩,⟨by (with_reducible repeat (first|apply Kd.R_alloc|apply Kd.R_drewN|apply Kd.R_drew));exact Kd.R_mono (Kd.R_far (p := ⟨aq,2,none⟩) (Kd.R_far (p := ⟨aq,1,none⟩) (Kd.R_far (p := ⟨aq,0,none⟩) (Kd.R_types bg.out ah.out (by decide)) (fun _ hk => hk.2) (.slice ba aR.length bb)) (fun _ hk => hk.2) (.slice bc a3.length bd)) (fun _ hk => hk.2) (.int .i64 a8)) (fun _ hk => hk.1)⟩,⟨by refine kO ?_;refine blk_put (cs := #[.slice ba aR.length bb,.slice bc a3.length bd,.int .i64 ag]) ?_ 2 _ rfl;refine kO ?_;refine blk_put (cs := #[.slice ba aR.length bb,.slice aT ad.length aQ,.int .i64 ag]) ?_ 1 _ rfl;refine kO ?_;refine blk_put (cs := #[.slice a6 af.length aS,.slice aT ad.length aQ,.int .i64 ag]) ?_ 0 _ rfl;refine kO ?_;exact ah.out⟩,⟨bG HB.out⟩⟩
    ·rw [if_neg c8] at H
     have bD := beq_eq_false_iff_ne.mpr c8
     have bE := bne_iff_ne.mpr c8
     obtain rfl := Option.some.inj H
     have a4 : 0 ≤ (aa : Int) := dA
     have a5 : aa < (l0.length : Int) := dA
     obtain ⟨bu,aj,ak,al,am,ao,ap,bp,ar,au,av,aw,ax,ay,az,aA,aB,aC,aD,aE⟩ := at_T37 bR.out aa a4 a5
     cases bp
     replace ar := xM HB ar
     replace au := xM HB au
     replace av := xM HB av
     replace aw := xM HB aw
     replace ax := xM HB ax
     replace ay := xM HB ay
     have aI := aK aA
     have aJ := aK az
     clear aA az
     have aL := aK aC
     have aM := aK aB
     clear aC aB
     have aN := aK aE
     have aO := aK aD
     clear aE aD
     replace a4 := eq_true a4
     replace a5 := eq_true a5
     go_wp2_with (first|((with_reducible refine gate_dst (N := 5) rfl ?_);refine box_event ?hg (N := 5) ?hd (cs := #[.int .i64 0,.int .i64 0,.int .i64 0,.slice none 0 0,.slice none 0 0,.slice none 0 0]) (t := 37) ?hr ?_;(case hd => rfl);(case hg => rfl);(case hr => first|(go_simp;done)|(go_simp;rfl));intro ae hg cc hbox hb;replace ab := aK (Kd.R_below (rM ab.out) hb);replace ac := aK (Kd.R_below (rM ac.out) hb);have an := aK (hbox);have a9 := aK ((by rw [hg];exact (below_size (bG HB.out)) : w.heap.size ≤ ae));have bv := Ge.mk a9.out;have a7 := aK ((by rw [hg];exact (below_size (bG HB.out)) : w.heap.size ≤ ae));have bx := Ge.mk a7.out;replace HB := aK (below_step (bG HB.out) hb);have ai := aK (nbL ah.out hg);have aF := aK (nbR ah.out hg);replace ah := aK (blk_below (kM ah.out) hb);clear hb hbox hg;have b1 := aF.out;have b2 := ai.out;obtain ⟨_,_,_,_,_,_,_,_,_,_,_,_⟩ := bk6_ an.out;obtain ⟨_,_,_,_,_,_⟩ := bk3_ ah.out;obtain ⟨bz,bq,bN⟩ := Kd.R_slice ab.out;subst bN;obtain ⟨bB,br,bO⟩ := Kd.R_slice ac.out;subst bO)|((with_reducible refine gate_callee (f := 41) rfl ?_);refine gL 18 Tryd.func41 #[.agg #[.slice bz af.length bq,.slice bB ad.length br,.int .i64 ag],.int .i64 aa,.agg #[.int .i64 ((rd_T37 l0 aa).f0),.int .i64 ((rd_T37 l0 aa).f1),.int .i64 ((rd_T37 l0 aa).f2),.slice aj ((rd_T37 l0 aa).f3).length ak,.slice al ((rd_T37 l0 aa).f4).length am,.slice ao ((rd_T37 l0 aa).f5).length ap]] ?_;(with_reducible refine (manifest_check.calls k1 _ _ af _ _ ad ag aa ((rd_T37 l0 aa).f0) ((rd_T37 l0 aa).f1) ((rd_T37 l0 aa).f2) _ _ ((rd_T37 l0 aa).f3) _ _ ((rd_T37 l0 aa).f4) _ _ ((rd_T37 l0 aa).f5) bo _ ?aU ?aV ?aW ?aX ?aY ?aZ ?a0 ?a1 ?a2 ?aP A7.out).mono ?_);(case aU => refine (Kd.R_reads' (e := 3) (base := w.heap.size) (ok := fun k_ => some k_ ≠ (.slice bB ad.length br : Value).ownBlock) (n := af.length) (c := bq) ?_).2.2;exact (by (with_reducible repeat (first|apply Kd.R_alloc|apply Kd.R_drewN|apply Kd.R_drew));exact (Kd.R_mono (Kd.R_far (p := ⟨ae,5,none⟩) (Kd.R_far (p := ⟨ae,4,none⟩) (Kd.R_far (p := ⟨ae,3,none⟩) (Kd.R_far (p := ⟨ae,2,none⟩) (Kd.R_far (p := ⟨ae,1,none⟩) (Kd.R_far (p := ⟨ae,0,none⟩) (Kd.R_types ab.out an.out (by decide)) (fun _ hk => hk.2) (.int .i64 ((rd_T37 l0 aa).f0))) (fun _ hk => hk.2) (.int .i64 ((rd_T37 l0 aa).f1))) (fun _ hk => hk.2) (.int .i64 ((rd_T37 l0 aa).f2))) (fun _ hk => hk.2) (.slice aj ((rd_T37 l0 aa).f3).length ak)) (fun _ hk => hk.2) (.slice al ((rd_T37 l0 aa).f4).length am)) (fun _ hk => hk.2) (.slice ao ((rd_T37 l0 aa).f5).length ap)) (fun _ h_ => h_.1))));(case aV => exact (Kd.R_reads' ab.out).2.1);(case aW => refine (Kd.R_reads' (e := 3) (base := w.heap.size) (ok := fun k_ => some k_ ≠ (.slice bz af.length bq : Value).ownBlock) (n := ad.length) (c := br) ?_).2.2;exact (by (with_reducible repeat (first|apply Kd.R_alloc|apply Kd.R_drewN|apply Kd.R_drew));exact (Kd.R_mono (Kd.R_far (p := ⟨ae,5,none⟩) (Kd.R_far (p := ⟨ae,4,none⟩) (Kd.R_far (p := ⟨ae,3,none⟩) (Kd.R_far (p := ⟨ae,2,none⟩) (Kd.R_far (p := ⟨ae,1,none⟩) (Kd.R_far (p := ⟨ae,0,none⟩) (Kd.R_types ac.out an.out (by decide)) (fun _ hk => hk.2) (.int .i64 ((rd_T37 l0 aa).f0))) (fun _ hk => hk.2) (.int .i64 ((rd_T37 l0 aa).f1))) (fun _ hk => hk.2) (.int .i64 ((rd_T37 l0 aa).f2))) (fun _ hk => hk.2) (.slice aj ((rd_T37 l0 aa).f3).length ak)) (fun _ hk => hk.2) (.slice al ((rd_T37 l0 aa).f4).length am)) (fun _ hk => hk.2) (.slice ao ((rd_T37 l0 aa).f5).length ap)) (fun _ h_ => h_.1))));(case aX => exact (Kd.R_reads' ac.out).2.1);(case aY => exact Kd.C_below aI.out (bG HB.out));(case aZ => exact aJ.out);(case a0 => exact Kd.C_below aL.out (bG HB.out));(case a1 => exact aM.out);(case a2 => exact Kd.C_below aN.out (bG HB.out));(case aP => exact aO.out);rintro e cd ⟨rfl,hb⟩;refine ⟨_,rfl,?_⟩;replace HB := aK (below_step (bG HB.out) hb);(try clear hb);(try clear hk)))
     go_ret
     exact ⟨by first|rfl|(simp [errW_none,errW_some] <;> rfl)|(simp [*,errW_none,errW_some] <;> rfl),bG HB.out⟩
   ·rw [if_neg c4] at H
    have bC := decide_eq_false c4
    clear c4
    obtain rfl := Option.some.inj H
    go_wp2
    go_ret
    exact ⟨by first|rfl|(simp [errW_none,errW_some] <;> rfl)|(simp [*,errW_none,errW_some] <;> rfl),bG HB.out⟩

/-! ### l33_example: function 22 -/
def l33_example.f  : Option ((List (S37))) := some (([(⟨1, 1, 1, ([] : List Int), ([] : List Int), ([] : List ByteArray)⟩ : S37), (⟨2, 1, 2, ([] : List Int), ([] : List Int), ([] : List ByteArray)⟩ : S37), (⟨3, 2, 0, (([7, 9] : List Int)), ([] : List Int), ([] : List ByteArray)⟩ : S37), (⟨4, 3, 3, ([] : List Int), (([1, 2] : List Int)), ([] : List ByteArray)⟩ : S37)] : List (S37)))
theorem l33_example.calls  (r : List (S37)) (w : World) (h : l33_example.f  = some r) :
  Calls Tryd.prog 22 #[] w fun e w' => ∃ aq : Value,e = .returned (aq) ∧ Kd.N k37 37 w' w.heap.size (fun k_ => (w.heap.size ≤ k_)) aq r ∧ Below w.heap.size w w' := by
 have ax := Tryd.underlying37
 have HB := aK (Below.refl w.heap.size w)
 unfold l33_example.f at h
 have H := h
 clear h
 obtain ⟨ab,ac⟩ : ∃ y_ : List Int,y_ = (([7,9] : List Int)) := ⟨_,rfl⟩
 replace H : (some (([(⟨1,1,1,([] : List Int),([] : List Int),([] : List ByteArray)⟩ : S37),(⟨2,1,2,([] : List Int),([] : List Int),([] : List ByteArray)⟩ : S37),(⟨3,2,0,ab,([] : List Int),([] : List ByteArray)⟩ : S37),(⟨4,3,3,([] : List Int),(([1,2] : List Int)),([] : List ByteArray)⟩ : S37)] : List (S37)))) = some r := by first|(rw [ac];with_reducible exact H)|(have ag := (Option.bind_some _ _).symm.trans H;rw [ac];with_reducible exact ag)|(have ag := (Option.bind_some _ _).symm.trans H;with_reducible exact ag)|with_reducible exact H|(rw [ac];exact H)|exact H
 have ai := aK ac
 clear ac
 obtain ⟨af,ad⟩ : ∃ y_ : List Int,y_ = (([1,2] : List Int)) := ⟨_,rfl⟩
 replace H : (some (([(⟨1,1,1,([] : List Int),([] : List Int),([] : List ByteArray)⟩ : S37),(⟨2,1,2,([] : List Int),([] : List Int),([] : List ByteArray)⟩ : S37),(⟨3,2,0,ab,([] : List Int),([] : List ByteArray)⟩ : S37),(⟨4,3,3,([] : List Int),af,([] : List ByteArray)⟩ : S37)] : List (S37)))) = some r := by first|(rw [ad];with_reducible exact H)|(have ag := (Option.bind_some _ _).symm.trans H;rw [ad];with_reducible exact ag)|(have ag := (Option.bind_some _ _).symm.trans H;with_reducible exact ag)|with_reducible exact H|(rw [ad];exact H)|exact H
 have aj := aK ad
 clear ad
 obtain ⟨ap,ae⟩ : ∃ y_ : List (S37),y_ = (([(⟨1,1,1,([] : List Int),([] : List Int),([] : List ByteArray)⟩ : S37),(⟨2,1,2,([] : List Int),([] : List Int),([] : List ByteArray)⟩ : S37),(⟨3,2,0,ab,([] : List Int),([] : List ByteArray)⟩ : S37),(⟨4,3,3,([] : List Int),af,([] : List ByteArray)⟩ : S37)] : List (S37))) := ⟨_,rfl⟩
 replace H : (some ap) = some r := by first|(rw [ae];with_reducible exact H)|(have ag := (Option.bind_some _ _).symm.trans H;rw [ae];with_reducible exact ag)|(have ag := (Option.bind_some _ _).symm.trans H;with_reducible exact ag)|with_reducible exact H|(rw [ae];exact H)|exact H
 have ak := aK ae
 clear ae
 obtain rfl := Option.some.inj H
 go_enter Tryd.func22,Tryd.ntmps22
 go_wp2_with (first|((with_reducible refine gate_dst (N := 3) rfl ?_);refine Kd.R_lit (Kd.int .i64) _ 3 ?hg (N := 3) ?hd (xs := ([7,9] : List Int)) (inner := [.int .i64 7,.int .i64 9]) (ok := fun _ => True) (okp := fun _ => True) ?hr ?hp (fun _ hk => hk) trivial (Below.refl _ _) (Nat.le_refl _) (by simp) ?_;(case hd => rfl);(case hg => rfl);(case hr => first|(go_simp;done)|(go_simp;rfl));(case hp => exact (Reps.one (show Kd.M (Kd.int .i64) _ _ _ 7 [.int .i64 7] from rfl) (Reps.one (show Kd.M (Kd.int .i64) _ _ _ 9 [.int .i64 9] from rfl) (Reps.none _ _))));intro ay w1 am hb hg_ hnew_;clear hg_ hnew_;(first|rw [← ai.out] at am|(simp only [Int.reduceToNat] at am;rw [← ai.out] at am));have aa := aK (Kd.R_lower (Kd.R_newM (M := fun k_ => (w.heap.size ≤ k_)) am (below_size (bM HB.out)) (fun k_ h_ => h_)) (below_size (bM HB.out)));replace HB := aK (below_step (bM HB.out) hb);clear hb am;obtain ⟨ar,au,az⟩ := Kd.R_slice aa.out;subst az)|((with_reducible refine gate_dst (N := 5) rfl ?_);refine Kd.R_lit (Kd.int .i64) _ 3 ?hg (N := 5) ?hd (xs := ([1,2] : List Int)) (inner := [.int .i64 1,.int .i64 2]) (ok := fun _ => True) (okp := fun _ => True) ?hr ?hp (fun _ hk => hk) trivial (Below.refl _ _) (Nat.le_refl _) (by simp) ?_;(case hd => rfl);(case hg => rfl);(case hr => first|(go_simp;done)|(go_simp;rfl));(case hp => exact (Reps.one (show Kd.M (Kd.int .i64) _ _ _ 1 [.int .i64 1] from rfl) (Reps.one (show Kd.M (Kd.int .i64) _ _ _ 2 [.int .i64 2] from rfl) (Reps.none _ _))));intro aA w4 al hb hg_ hnew_;clear hg_ hnew_;(first|rw [← aj.out] at al|(simp only [Int.reduceToNat] at al;rw [← aj.out] at al));have ah := aK (Kd.R_lower (Kd.R_new' (Kd.R_newM (M := fun k_ => (w.heap.size ≤ k_)) al (below_size (bM HB.out)) (fun k_ h_ => h_)) (Kd.R_lt (rM aa.out))) (below_size (bM HB.out)));replace aa := aK (Kd.R_elder' (rM aa.out) (Kd.R_base al) hb);replace HB := aK (below_step (bM HB.out) hb);clear hb al;obtain ⟨av,aw,aB⟩ := Kd.R_slice ah.out;subst aB)|((with_reducible refine gate_dst (N := 7) rfl ?_);refine Kd.N_lit k37 _ 37 ?hg (N' := 7) ?hd (xs := ([(⟨1,1,1,([] : List Int),([] : List Int),([] : List ByteArray)⟩ : S37),(⟨2,1,2,([] : List Int),([] : List Int),([] : List ByteArray)⟩ : S37),(⟨3,2,0,ab,([] : List Int),([] : List ByteArray)⟩ : S37),(⟨4,3,3,([] : List Int),af,([] : List ByteArray)⟩ : S37)] : List (S37))) (inner := [.int .i64 1,.int .i64 1,.int .i64 1,.slice none 0 0,.slice none 0 0,.slice none 0 0,.int .i64 2,.int .i64 1,.int .i64 2,.slice none 0 0,.slice none 0 0,.slice none 0 0,.int .i64 3,.int .i64 2,.int .i64 0,.slice ar ab.length au,.slice none 0 0,.slice none 0 0,.int .i64 4,.int .i64 3,.int .i64 3,.slice none 0 0,.slice av af.length aw,.slice none 0 0]) (ok := (fun k_ => (w.heap.size ≤ k_))) (okp := (fun k_ => (w.heap.size ≤ k_))) ?hr ?hp (fun _ hk => hk) ((show ∀ k_,w4.heap.size ≤ k_ → (fun k_ => (w.heap.size ≤ k_)) k_ from fun k_ hk => (Nat.le_trans (below_size (bM HB.out)) hk)) _ (Nat.le_refl _)) (Below.refl _ _) (Nat.le_refl _) (by simp) ?_;(case hd => rfl);(case hg => rfl);(case hr => first|(go_simp;done)|(go_simp;rfl));(case hp => exact (Reps.c6 (show Kd.FK k37 _ _ (⟨1,1,1,([] : List Int),([] : List Int),([] : List ByteArray)⟩ : S37) [.int .i64 1,.int .i64 1,.int .i64 1,.slice none 0 0,.slice none 0 0,.slice none 0 0] from (k37_mkF _ _ (⟨1,1,1,([] : List Int),([] : List Int),([] : List ByteArray)⟩ : S37) (Nat.le_refl _) (Kd.F_nil _ _ _) (Nat.le_refl _) (Kd.F_nil _ _ _) (Nat.le_refl _) (Kd.F_nil _ _ _))) (Reps.c6 (show Kd.FK k37 _ _ (⟨2,1,2,([] : List Int),([] : List Int),([] : List ByteArray)⟩ : S37) [.int .i64 2,.int .i64 1,.int .i64 2,.slice none 0 0,.slice none 0 0,.slice none 0 0] from (k37_mkF _ _ (⟨2,1,2,([] : List Int),([] : List Int),([] : List ByteArray)⟩ : S37) (Nat.le_refl _) (Kd.F_nil _ _ _) (Nat.le_refl _) (Kd.F_nil _ _ _) (Nat.le_refl _) (Kd.F_nil _ _ _))) (Reps.c6 (show Kd.FK k37 _ _ (⟨3,2,0,ab,([] : List Int),([] : List ByteArray)⟩ : S37) [.int .i64 3,.int .i64 2,.int .i64 0,.slice ar ab.length au,.slice none 0 0,.slice none 0 0] from (k37_mkF _ _ (⟨3,2,0,ab,([] : List Int),([] : List ByteArray)⟩ : S37) (Kd.R_reads' (Kd.R_mono (ok' := (fun k_ => (w.heap.size ≤ k_))) (aa.out) (fun k_ hk => hk.1.1))).2.1 (Kd.R_F (Kd.R_mono (ok' := (fun k_ => (w.heap.size ≤ k_))) (aa.out) (fun k_ hk => hk.1.1))) (Nat.le_refl _) (Kd.F_nil _ _ _) (Nat.le_refl _) (Kd.F_nil _ _ _))) (Reps.c6 (show Kd.FK k37 _ _ (⟨4,3,3,([] : List Int),af,([] : List ByteArray)⟩ : S37) [.int .i64 4,.int .i64 3,.int .i64 3,.slice none 0 0,.slice av af.length aw,.slice none 0 0] from (k37_mkF _ _ (⟨4,3,3,([] : List Int),af,([] : List ByteArray)⟩ : S37) (Nat.le_refl _) (Kd.F_nil _ _ _) (Kd.R_reads' (Kd.R_mono (ok' := (fun k_ => (w.heap.size ≤ k_))) (ah.out) (fun k_ hk => hk.1.1))).2.1 (Kd.R_F (Kd.R_mono (ok' := (fun k_ => (w.heap.size ≤ k_))) (ah.out) (fun k_ hk => hk.1.1))) (Nat.le_refl _) (Kd.F_nil _ _ _))) (Reps.none _ _))))));intro aC w7 an hb hg_ hnew_;clear hg_ hnew_;(first|rw [← ak.out] at an|(simp only [Int.reduceToNat] at an;rw [← ak.out] at an));have ao := aK (Kd.N_lower an (below_size (bM HB.out)));replace HB := aK (below_step (bM HB.out) hb);clear hb an))
 go_ret
 exact ⟨_,by first|rfl|(simp [errW_none,errW_some] <;> rfl)|(simp [*,errW_none,errW_some] <;> rfl),nM ao.out,bM HB.out⟩

/-! ### l33_alive: function 7 -/
def l33_alive.f (k : Nat)  : Option (Bool) := (l33_example.f).bind fun t375 => ((manifest_Right.f k t375).bind fun t378 => (if t378 = 0 then (if 3 ≤ (t375.length : Int) then ((manifest_Live.f k (t375.take 3)).bind fun t384 => ((r33_SameInts.f k t384 (([1, 2] : List Int))).bind fun t390 => (if t390 = true then ((manifest_Dead.f k (t375.take 3)).bind fun t396 => ((r33_SameInts.f k t396 (([7, 9] : List Int))).bind fun t402 => (if t402 = true then ((manifest_Live.f k t375).bind fun t403 => ((r33_SameInts.f k t403 (([3] : List Int))).bind fun t409 => (if t409 = true then ((manifest_Dead.f k t375).bind fun t410 => (if (t410.length : Int) = 0 then ((manifest_Encode.f k 1 1 5 ([] : List Int) ([] : List Int) ([] : List ByteArray)).bind fun t413 => (if (strOfNums t413).toList = ([1, 1, 5, 0, 0, 0] : List UInt8) then (if 0 < (t375.length : Int) then ((manifest_Right.f k (([(⟨(rd_T37 t375 0).f0, (rd_T37 t375 0).f1, (rd_T37 t375 0).f2, (rd_T37 t375 0).f3, (rd_T37 t375 0).f4, (rd_T37 t375 0).f5⟩ : S37), (⟨2, 1, 1, ([] : List Int), ([] : List Int), ([] : List ByteArray)⟩ : S37)] : List (S37)))).bind fun t420 => ((manifest_Right.f k (([(⟨(rd_T37 t375 0).f0, (rd_T37 t375 0).f1, (rd_T37 t375 0).f2, (rd_T37 t375 0).f3, (rd_T37 t375 0).f4, (rd_T37 t375 0).f5⟩ : S37), (⟨2, 3, 2, ([] : List Int), (([4] : List Int)), ([] : List ByteArray)⟩ : S37)] : List (S37)))).bind fun t428 => ((manifest_Right.f k (([(⟨1, 2, 0, ([] : List Int), ([] : List Int), ([] : List ByteArray)⟩ : S37)] : List (S37)))).bind fun t432 => ((manifest_Write.f k t375).bind fun t433 => ((manifest_Recover.f k t433).bind fun bt436 => (if t420 = 7 then (if t428 = 8 then (if t432 = 1 then ((r33_SameAll.f k bt436.1 t375).bind fun t440 => (if t440 = true then ((manifest_Write.f k t375).bind fun t441 => (if bt436.2 = (t441.length : Int) then (some (decide (bt436.2 > 0))) else (none))) else (none))) else (none)) else (none)) else (none))))))) else (none)) else (none))) else (none))) else (none)))) else (none)))) else (none)))) else (none)) else (none)))
theorem l33_alive.mono : ∀ k, LeO (l33_alive.f k ) (l33_alive.f (k + 1) ) := by
 intro  k
 unfold l33_alive.f
 repeat' first
  |(with_reducible exact r33_SameAll.mono _ _ _)
  |(with_reducible exact r33_SameInts.mono _ _ _)
  |(with_reducible exact manifest_Dead.mono _ _)
  |(with_reducible exact manifest_Encode.mono _ _ _ _ _ _ _)
  |(with_reducible exact manifest_Live.mono _ _)
  |(with_reducible exact manifest_Recover.mono _ _)
  |(with_reducible exact manifest_Right.mono _ _)
  |(with_reducible exact manifest_Write.mono _ _)
  |(with_reducible exact LeO.refl _)
  |(with_reducible exact LeO.none _)
  |(with_reducible refine LeO.ite ?_ ?_)
  |(with_reducible refine LeO.bind ?_ (fun _ => ?_))
  |exact r33_SameAll.mono _ _ _
  |exact r33_SameInts.mono _ _ _
  |exact manifest_Dead.mono _ _
  |exact manifest_Encode.mono _ _ _ _ _ _ _
  |exact manifest_Live.mono _ _
  |exact manifest_Recover.mono _ _
  |exact manifest_Right.mono _ _
  |exact manifest_Write.mono _ _
  |exact LeO.none _
  |refine LeO.ite ?_ ?_
  |refine LeO.bind ?_ (fun _ => ?_)
theorem l33_alive.calls (k : Nat)  (r : Bool) (w : World) (h : l33_alive.f k  = some r) :
  Calls Tryd.prog 7 #[] w fun e w' => e = .returned (.bool r) ∧ Below w.heap.size w w' := by
 have e6 := Tryd.underlying37
 have HB := aK (Below.refl w.heap.size w)
 unfold l33_alive.f at h
 have H := h
 clear h
 replace H := Option.bind_eq_some_iff.mp H
 obtain ⟨aa,dN,H⟩ := H
 have A1 := aK dN
 clear dN
 replace H := Option.bind_eq_some_iff.mp H
 obtain ⟨dk,dO,H⟩ := H
 have A2 := aK dO
 clear dO
 by_cases c3 : dk = 0
 ·rw [if_pos c3] at H
  have e7 := beq_iff_eq.mpr c3
  have e8 := bne_eq_false_iff_eq.mpr c3
  clear c3
  obtain ⟨c4,H⟩ := iS H
  have e9 := eq_true c4
  have fa := decide_eq_true c4
  clear c4
  obtain ⟨cn,bQ⟩ : ∃ y_ : List (S37),y_ = (aa.take 3) := ⟨_,rfl⟩
  replace H : ((manifest_Live.f k cn).bind fun av => ((r33_SameInts.f k av (([1,2] : List Int))).bind fun cH => (if cH = true then ((manifest_Dead.f k (aa.take 3)).bind fun au => ((r33_SameInts.f k au (([7,9] : List Int))).bind fun bR => (if bR = true then ((manifest_Live.f k aa).bind fun ao => ((r33_SameInts.f k ao (([3] : List Int))).bind fun bo => (if bo = true then ((manifest_Dead.f k aa).bind fun ap => (if (ap.length : Int) = 0 then ((manifest_Encode.f k 1 1 5 ([] : List Int) ([] : List Int) ([] : List ByteArray)).bind fun bm => (if (strOfNums bm).toList = ([1,1,5,0,0,0] : List UInt8) then (if 0 < (aa.length : Int) then ((manifest_Right.f k (([(⟨(rd_T37 aa 0).f0,(rd_T37 aa 0).f1,(rd_T37 aa 0).f2,(rd_T37 aa 0).f3,(rd_T37 aa 0).f4,(rd_T37 aa 0).f5⟩ : S37),(⟨2,1,1,([] : List Int),([] : List Int),([] : List ByteArray)⟩ : S37)] : List (S37)))).bind fun aX => ((manifest_Right.f k (([(⟨(rd_T37 aa 0).f0,(rd_T37 aa 0).f1,(rd_T37 aa 0).f2,(rd_T37 aa 0).f3,(rd_T37 aa 0).f4,(rd_T37 aa 0).f5⟩ : S37),(⟨2,3,2,([] : List Int),(([4] : List Int)),([] : List ByteArray)⟩ : S37)] : List (S37)))).bind fun aV => ((manifest_Right.f k (([(⟨1,2,0,([] : List Int),([] : List Int),([] : List ByteArray)⟩ : S37)] : List (S37)))).bind fun aS => ((manifest_Write.f k aa).bind fun aQ => ((manifest_Recover.f k aQ).bind fun af => (if aX = 7 then (if aV = 8 then (if aS = 1 then ((r33_SameAll.f k af.1 aa).bind fun aT => (if aT = true then ((manifest_Write.f k aa).bind fun aR => (if af.2 = (aR.length : Int) then (some (decide (af.2 > 0))) else (none))) else (none))) else (none)) else (none)) else (none))))))) else (none)) else (none))) else (none))) else (none)))) else (none)))) else (none)))) = some r := by first|(rw [bQ];with_reducible exact H)|(have aY := (Option.bind_some _ _).symm.trans H;rw [bQ];with_reducible exact aY)|(have aY := (Option.bind_some _ _).symm.trans H;with_reducible exact aY)|with_reducible exact H|(rw [bQ];exact H)|exact H
  have cO := aK bQ
  clear bQ
  replace H := Option.bind_eq_some_iff.mp H
  obtain ⟨av,eD,H⟩ := H
  have A5 := aK eD
  clear eD
  obtain ⟨aw,bS⟩ : ∃ y_ : List Int,y_ = (([1,2] : List Int)) := ⟨_,rfl⟩
  replace H : ((r33_SameInts.f k av aw).bind fun cH => (if cH = true then ((manifest_Dead.f k (aa.take 3)).bind fun au => ((r33_SameInts.f k au (([7,9] : List Int))).bind fun bR => (if bR = true then ((manifest_Live.f k aa).bind fun ao => ((r33_SameInts.f k ao (([3] : List Int))).bind fun bo => (if bo = true then ((manifest_Dead.f k aa).bind fun ap => (if (ap.length : Int) = 0 then ((manifest_Encode.f k 1 1 5 ([] : List Int) ([] : List Int) ([] : List ByteArray)).bind fun bm => (if (strOfNums bm).toList = ([1,1,5,0,0,0] : List UInt8) then (if 0 < (aa.length : Int) then ((manifest_Right.f k (([(⟨(rd_T37 aa 0).f0,(rd_T37 aa 0).f1,(rd_T37 aa 0).f2,(rd_T37 aa 0).f3,(rd_T37 aa 0).f4,(rd_T37 aa 0).f5⟩ : S37),(⟨2,1,1,([] : List Int),([] : List Int),([] : List ByteArray)⟩ : S37)] : List (S37)))).bind fun aX => ((manifest_Right.f k (([(⟨(rd_T37 aa 0).f0,(rd_T37 aa 0).f1,(rd_T37 aa 0).f2,(rd_T37 aa 0).f3,(rd_T37 aa 0).f4,(rd_T37 aa 0).f5⟩ : S37),(⟨2,3,2,([] : List Int),(([4] : List Int)),([] : List ByteArray)⟩ : S37)] : List (S37)))).bind fun aV => ((manifest_Right.f k (([(⟨1,2,0,([] : List Int),([] : List Int),([] : List ByteArray)⟩ : S37)] : List (S37)))).bind fun aS => ((manifest_Write.f k aa).bind fun aQ => ((manifest_Recover.f k aQ).bind fun af => (if aX = 7 then (if aV = 8 then (if aS = 1 then ((r33_SameAll.f k af.1 aa).bind fun aT => (if aT = true then ((manifest_Write.f k aa).bind fun aR => (if af.2 = (aR.length : Int) then (some (decide (af.2 > 0))) else (none))) else (none))) else (none)) else (none)) else (none))))))) else (none)) else (none))) else (none))) else (none)))) else (none)))) else (none))) = some r := by first|(rw [bS];with_reducible exact H)|(have aY := (Option.bind_some _ _).symm.trans H;rw [bS];with_reducible exact aY)|(have aY := (Option.bind_some _ _).symm.trans H;with_reducible exact aY)|with_reducible exact H|(rw [bS];exact H)|exact H
  have cP := aK bS
  clear bS
  replace H := Option.bind_eq_some_iff.mp H
  obtain ⟨cH,eE,H⟩ := H
  have A6 := aK eE
  clear eE
  obtain ⟨c7,H⟩ := iS H
  subst c7
  have fb := eq_true (dA : 3 ≤ (aa.length : Int))
  obtain ⟨co,bT⟩ : ∃ y_ : List (S37),y_ = (aa.take 3) := ⟨_,rfl⟩
  replace H : ((manifest_Dead.f k co).bind fun au => ((r33_SameInts.f k au (([7,9] : List Int))).bind fun bR => (if bR = true then ((manifest_Live.f k aa).bind fun ao => ((r33_SameInts.f k ao (([3] : List Int))).bind fun bo => (if bo = true then ((manifest_Dead.f k aa).bind fun ap => (if (ap.length : Int) = 0 then ((manifest_Encode.f k 1 1 5 ([] : List Int) ([] : List Int) ([] : List ByteArray)).bind fun bm => (if (strOfNums bm).toList = ([1,1,5,0,0,0] : List UInt8) then (if 0 < (aa.length : Int) then ((manifest_Right.f k (([(⟨(rd_T37 aa 0).f0,(rd_T37 aa 0).f1,(rd_T37 aa 0).f2,(rd_T37 aa 0).f3,(rd_T37 aa 0).f4,(rd_T37 aa 0).f5⟩ : S37),(⟨2,1,1,([] : List Int),([] : List Int),([] : List ByteArray)⟩ : S37)] : List (S37)))).bind fun aX => ((manifest_Right.f k (([(⟨(rd_T37 aa 0).f0,(rd_T37 aa 0).f1,(rd_T37 aa 0).f2,(rd_T37 aa 0).f3,(rd_T37 aa 0).f4,(rd_T37 aa 0).f5⟩ : S37),(⟨2,3,2,([] : List Int),(([4] : List Int)),([] : List ByteArray)⟩ : S37)] : List (S37)))).bind fun aV => ((manifest_Right.f k (([(⟨1,2,0,([] : List Int),([] : List Int),([] : List ByteArray)⟩ : S37)] : List (S37)))).bind fun aS => ((manifest_Write.f k aa).bind fun aQ => ((manifest_Recover.f k aQ).bind fun af => (if aX = 7 then (if aV = 8 then (if aS = 1 then ((r33_SameAll.f k af.1 aa).bind fun aT => (if aT = true then ((manifest_Write.f k aa).bind fun aR => (if af.2 = (aR.length : Int) then (some (decide (af.2 > 0))) else (none))) else (none))) else (none)) else (none)) else (none))))))) else (none)) else (none))) else (none))) else (none)))) else (none)))) = some r := by first|(rw [bT];with_reducible exact H)|(have aY := (Option.bind_some _ _).symm.trans H;rw [bT];with_reducible exact aY)|(have aY := (Option.bind_some _ _).symm.trans H;with_reducible exact aY)|with_reducible exact H|(rw [bT];exact H)|exact H
  have cQ := aK bT
  clear bT
  replace H := Option.bind_eq_some_iff.mp H
  obtain ⟨au,eF,H⟩ := H
  have A9 := aK eF
  clear eF
  obtain ⟨ax,bU⟩ : ∃ y_ : List Int,y_ = (([7,9] : List Int)) := ⟨_,rfl⟩
  replace H : ((r33_SameInts.f k au ax).bind fun bR => (if bR = true then ((manifest_Live.f k aa).bind fun ao => ((r33_SameInts.f k ao (([3] : List Int))).bind fun bo => (if bo = true then ((manifest_Dead.f k aa).bind fun ap => (if (ap.length : Int) = 0 then ((manifest_Encode.f k 1 1 5 ([] : List Int) ([] : List Int) ([] : List ByteArray)).bind fun bm => (if (strOfNums bm).toList = ([1,1,5,0,0,0] : List UInt8) then (if 0 < (aa.length : Int) then ((manifest_Right.f k (([(⟨(rd_T37 aa 0).f0,(rd_T37 aa 0).f1,(rd_T37 aa 0).f2,(rd_T37 aa 0).f3,(rd_T37 aa 0).f4,(rd_T37 aa 0).f5⟩ : S37),(⟨2,1,1,([] : List Int),([] : List Int),([] : List ByteArray)⟩ : S37)] : List (S37)))).bind fun aX => ((manifest_Right.f k (([(⟨(rd_T37 aa 0).f0,(rd_T37 aa 0).f1,(rd_T37 aa 0).f2,(rd_T37 aa 0).f3,(rd_T37 aa 0).f4,(rd_T37 aa 0).f5⟩ : S37),(⟨2,3,2,([] : List Int),(([4] : List Int)),([] : List ByteArray)⟩ : S37)] : List (S37)))).bind fun aV => ((manifest_Right.f k (([(⟨1,2,0,([] : List Int),([] : List Int),([] : List ByteArray)⟩ : S37)] : List (S37)))).bind fun aS => ((manifest_Write.f k aa).bind fun aQ => ((manifest_Recover.f k aQ).bind fun af => (if aX = 7 then (if aV = 8 then (if aS = 1 then ((r33_SameAll.f k af.1 aa).bind fun aT => (if aT = true then ((manifest_Write.f k aa).bind fun aR => (if af.2 = (aR.length : Int) then (some (decide (af.2 > 0))) else (none))) else (none))) else (none)) else (none)) else (none))))))) else (none)) else (none))) else (none))) else (none)))) else (none))) = some r := by first|(rw [bU];with_reducible exact H)|(have aY := (Option.bind_some _ _).symm.trans H;rw [bU];with_reducible exact aY)|(have aY := (Option.bind_some _ _).symm.trans H;with_reducible exact aY)|with_reducible exact H|(rw [bU];exact H)|exact H
  have cR := aK bU
  clear bU
  replace H := Option.bind_eq_some_iff.mp H
  obtain ⟨bR,dl,H⟩ := H
  have dN := aK dl
  clear dl
  obtain ⟨fc,H⟩ := iS H
  subst fc
  replace H := Option.bind_eq_some_iff.mp H
  obtain ⟨ao,dm,H⟩ := H
  have fd := aK dm
  clear dm
  obtain ⟨ay,bV⟩ : ∃ y_ : List Int,y_ = (([3] : List Int)) := ⟨_,rfl⟩
  replace H : ((r33_SameInts.f k ao ay).bind fun bo => (if bo = true then ((manifest_Dead.f k aa).bind fun ap => (if (ap.length : Int) = 0 then ((manifest_Encode.f k 1 1 5 ([] : List Int) ([] : List Int) ([] : List ByteArray)).bind fun bm => (if (strOfNums bm).toList = ([1,1,5,0,0,0] : List UInt8) then (if 0 < (aa.length : Int) then ((manifest_Right.f k (([(⟨(rd_T37 aa 0).f0,(rd_T37 aa 0).f1,(rd_T37 aa 0).f2,(rd_T37 aa 0).f3,(rd_T37 aa 0).f4,(rd_T37 aa 0).f5⟩ : S37),(⟨2,1,1,([] : List Int),([] : List Int),([] : List ByteArray)⟩ : S37)] : List (S37)))).bind fun aX => ((manifest_Right.f k (([(⟨(rd_T37 aa 0).f0,(rd_T37 aa 0).f1,(rd_T37 aa 0).f2,(rd_T37 aa 0).f3,(rd_T37 aa 0).f4,(rd_T37 aa 0).f5⟩ : S37),(⟨2,3,2,([] : List Int),(([4] : List Int)),([] : List ByteArray)⟩ : S37)] : List (S37)))).bind fun aV => ((manifest_Right.f k (([(⟨1,2,0,([] : List Int),([] : List Int),([] : List ByteArray)⟩ : S37)] : List (S37)))).bind fun aS => ((manifest_Write.f k aa).bind fun aQ => ((manifest_Recover.f k aQ).bind fun af => (if aX = 7 then (if aV = 8 then (if aS = 1 then ((r33_SameAll.f k af.1 aa).bind fun aT => (if aT = true then ((manifest_Write.f k aa).bind fun aR => (if af.2 = (aR.length : Int) then (some (decide (af.2 > 0))) else (none))) else (none))) else (none)) else (none)) else (none))))))) else (none)) else (none))) else (none))) else (none))) = some r := by first|(rw [bV];with_reducible exact H)|(have aY := (Option.bind_some _ _).symm.trans H;rw [bV];with_reducible exact aY)|(have aY := (Option.bind_some _ _).symm.trans H;with_reducible exact aY)|with_reducible exact H|(rw [bV];exact H)|exact H
  have cS := aK bV
  clear bV
  replace H := Option.bind_eq_some_iff.mp H
  obtain ⟨bo,dn,H⟩ := H
  have fe := aK dn
  clear dn
  obtain ⟨ff,H⟩ := iS H
  subst ff
  replace H := Option.bind_eq_some_iff.mp H
  obtain ⟨ap,dp,H⟩ := H
  have fg := aK dp
  clear dp
  obtain ⟨ed,H⟩ := iS H
  have eG := beq_iff_eq.mpr ed
  have eH := bne_eq_false_iff_eq.mpr ed
  clear ed
  replace H := Option.bind_eq_some_iff.mp H
  obtain ⟨bm,dq,H⟩ := H
  have fh := aK dq
  clear dq
  obtain ⟨ee,H⟩ := iS H
  have eI := beq_iff_eq.mpr ee
  have eJ := bne_eq_false_iff_eq.mpr ee
  clear ee
  obtain ⟨eK,H⟩ := iS H
  have eL := decide_eq_true eK
  have eM : decide (0 < aa.length) = true := decide_eq_true (by omega)
  clear eK
  obtain ⟨aW,bW⟩ : ∃ y_ : List (S37),y_ = (([(⟨(rd_T37 aa 0).f0,(rd_T37 aa 0).f1,(rd_T37 aa 0).f2,(rd_T37 aa 0).f3,(rd_T37 aa 0).f4,(rd_T37 aa 0).f5⟩ : S37),(⟨2,1,1,([] : List Int),([] : List Int),([] : List ByteArray)⟩ : S37)] : List (S37))) := ⟨_,rfl⟩
  replace H : ((manifest_Right.f k aW).bind fun aX => ((manifest_Right.f k (([(⟨(rd_T37 aa 0).f0,(rd_T37 aa 0).f1,(rd_T37 aa 0).f2,(rd_T37 aa 0).f3,(rd_T37 aa 0).f4,(rd_T37 aa 0).f5⟩ : S37),(⟨2,3,2,([] : List Int),(([4] : List Int)),([] : List ByteArray)⟩ : S37)] : List (S37)))).bind fun aV => ((manifest_Right.f k (([(⟨1,2,0,([] : List Int),([] : List Int),([] : List ByteArray)⟩ : S37)] : List (S37)))).bind fun aS => ((manifest_Write.f k aa).bind fun aQ => ((manifest_Recover.f k aQ).bind fun af => (if aX = 7 then (if aV = 8 then (if aS = 1 then ((r33_SameAll.f k af.1 aa).bind fun aT => (if aT = true then ((manifest_Write.f k aa).bind fun aR => (if af.2 = (aR.length : Int) then (some (decide (af.2 > 0))) else (none))) else (none))) else (none)) else (none)) else (none))))))) = some r := by first|(rw [bW];with_reducible exact H)|(have aY := (Option.bind_some _ _).symm.trans H;rw [bW];with_reducible exact aY)|(have aY := (Option.bind_some _ _).symm.trans H;with_reducible exact aY)|with_reducible exact H|(rw [bW];exact H)|exact H
  have cT := aK bW
  clear bW
  replace H := Option.bind_eq_some_iff.mp H
  obtain ⟨aX,dr,H⟩ := H
  have dO := aK dr
  clear dr
  obtain ⟨b1,bX⟩ : ∃ y_ : List Int,y_ = (([4] : List Int)) := ⟨_,rfl⟩
  replace H : ((manifest_Right.f k (([(⟨(rd_T37 aa 0).f0,(rd_T37 aa 0).f1,(rd_T37 aa 0).f2,(rd_T37 aa 0).f3,(rd_T37 aa 0).f4,(rd_T37 aa 0).f5⟩ : S37),(⟨2,3,2,([] : List Int),b1,([] : List ByteArray)⟩ : S37)] : List (S37)))).bind fun aV => ((manifest_Right.f k (([(⟨1,2,0,([] : List Int),([] : List Int),([] : List ByteArray)⟩ : S37)] : List (S37)))).bind fun aS => ((manifest_Write.f k aa).bind fun aQ => ((manifest_Recover.f k aQ).bind fun af => (if aX = 7 then (if aV = 8 then (if aS = 1 then ((r33_SameAll.f k af.1 aa).bind fun aT => (if aT = true then ((manifest_Write.f k aa).bind fun aR => (if af.2 = (aR.length : Int) then (some (decide (af.2 > 0))) else (none))) else (none))) else (none)) else (none)) else (none)))))) = some r := by first|(rw [bX];with_reducible exact H)|(have aY := (Option.bind_some _ _).symm.trans H;rw [bX];with_reducible exact aY)|(have aY := (Option.bind_some _ _).symm.trans H;with_reducible exact aY)|with_reducible exact H|(rw [bX];exact H)|exact H
  have cU := aK bX
  clear bX
  obtain ⟨b2,bY⟩ : ∃ y_ : List (S37),y_ = (([(⟨(rd_T37 aa 0).f0,(rd_T37 aa 0).f1,(rd_T37 aa 0).f2,(rd_T37 aa 0).f3,(rd_T37 aa 0).f4,(rd_T37 aa 0).f5⟩ : S37),(⟨2,3,2,([] : List Int),b1,([] : List ByteArray)⟩ : S37)] : List (S37))) := ⟨_,rfl⟩
  replace H : ((manifest_Right.f k b2).bind fun aV => ((manifest_Right.f k (([(⟨1,2,0,([] : List Int),([] : List Int),([] : List ByteArray)⟩ : S37)] : List (S37)))).bind fun aS => ((manifest_Write.f k aa).bind fun aQ => ((manifest_Recover.f k aQ).bind fun af => (if aX = 7 then (if aV = 8 then (if aS = 1 then ((r33_SameAll.f k af.1 aa).bind fun aT => (if aT = true then ((manifest_Write.f k aa).bind fun aR => (if af.2 = (aR.length : Int) then (some (decide (af.2 > 0))) else (none))) else (none))) else (none)) else (none)) else (none)))))) = some r := by first|(rw [bY];with_reducible exact H)|(have aY := (Option.bind_some _ _).symm.trans H;rw [bY];with_reducible exact aY)|(have aY := (Option.bind_some _ _).symm.trans H;with_reducible exact aY)|with_reducible exact H|(rw [bY];exact H)|exact H
  have cV := aK bY
  clear bY
  replace H := Option.bind_eq_some_iff.mp H
  obtain ⟨aV,ds,H⟩ := H
  have fi := aK ds
  clear ds
  obtain ⟨cI,bZ⟩ : ∃ y_ : List (S37),y_ = (([(⟨1,2,0,([] : List Int),([] : List Int),([] : List ByteArray)⟩ : S37)] : List (S37))) := ⟨_,rfl⟩
  replace H : ((manifest_Right.f k cI).bind fun aS => ((manifest_Write.f k aa).bind fun aQ => ((manifest_Recover.f k aQ).bind fun af => (if aX = 7 then (if aV = 8 then (if aS = 1 then ((r33_SameAll.f k af.1 aa).bind fun aT => (if aT = true then ((manifest_Write.f k aa).bind fun aR => (if af.2 = (aR.length : Int) then (some (decide (af.2 > 0))) else (none))) else (none))) else (none)) else (none)) else (none))))) = some r := by first|(rw [bZ];with_reducible exact H)|(have aY := (Option.bind_some _ _).symm.trans H;rw [bZ];with_reducible exact aY)|(have aY := (Option.bind_some _ _).symm.trans H;with_reducible exact aY)|with_reducible exact H|(rw [bZ];exact H)|exact H
  have cW := aK bZ
  clear bZ
  replace H := Option.bind_eq_some_iff.mp H
  obtain ⟨aS,dt,H⟩ := H
  have fj := aK dt
  clear dt
  replace H := Option.bind_eq_some_iff.mp H
  obtain ⟨aQ,du,H⟩ := H
  have fk := aK du
  clear du
  replace H := Option.bind_eq_some_iff.mp H
  obtain ⟨⟨c1,da⟩,dv,H⟩ := H
  replace H : (if aX = 7 then (if aV = 8 then (if aS = 1 then ((r33_SameAll.f k c1 aa).bind fun aT => (if aT = true then ((manifest_Write.f k aa).bind fun aR => (if da = (aR.length : Int) then (some (decide (da > 0))) else (none))) else (none))) else (none)) else (none)) else (none)) = some r := H
  have fl := aK dv
  clear dv
  obtain ⟨ef,H⟩ := iS H
  have eN := beq_iff_eq.mpr ef
  have eO := bne_eq_false_iff_eq.mpr ef
  clear ef
  obtain ⟨eg,H⟩ := iS H
  have eP := beq_iff_eq.mpr eg
  have eQ := bne_eq_false_iff_eq.mpr eg
  clear eg
  obtain ⟨eh,H⟩ := iS H
  have eR := beq_iff_eq.mpr eh
  have eS := bne_eq_false_iff_eq.mpr eh
  clear eh
  replace H := Option.bind_eq_some_iff.mp H
  obtain ⟨aT,dw,H⟩ := H
  have fm := aK dw
  clear dw
  obtain ⟨fn,H⟩ := iS H
  subst fn
  replace H := Option.bind_eq_some_iff.mp H
  obtain ⟨aR,dx,H⟩ := H
  have fo := aK dx
  clear dx
  obtain ⟨c31,H⟩ := iS H
  have eT := beq_iff_eq.mpr c31
  have eU := bne_eq_false_iff_eq.mpr c31
  clear c31
  obtain rfl := Option.some.inj H
  go_enter Tryd.func7,Tryd.ntmps7
  go_wp2_with (first|((with_reducible refine gate_callee (f := 22) rfl ?_);refine gL 7 Tryd.func22 #[] ?_;(with_reducible refine (l33_example.calls  aa _ A1.out).mono ?_);rintro e fP ⟨fp,rfl,az,hb⟩;refine ⟨_,rfl,?_⟩;have ab := aK (Kd.N_lower (Kd.N_mono (ok' := fun k_ => True) az (fun k_ hk_ => trivial)) (below_size (bM HB.out)));replace HB := aK (below_step (bM HB.out) hb);(try clear hb);(try clear hk);(try clear az);obtain ⟨b3,aq,ei⟩ := Kd.N_slice ab.out;subst ei)|((with_reducible refine gate_callee (f := 21) rfl ?_);refine gL 9 Tryd.func21 #[.slice b3 aa.length aq] ?_;(with_reducible refine (manifest_Right.calls k _ _ aa dk _ ?ai ?aj A2.out).mono ?_);(case ai => exact cM (Kd.N_reads' ab.out).2.2);(case aj => exact (Kd.N_reads' ab.out).2.1);rintro e fQ ⟨rfl,hb⟩;refine ⟨_,rfl,?_⟩;replace ab := aK (Kd.N_below (nM ab.out) hb);replace HB := aK (below_step (bM HB.out) hb);(try clear hb);(try clear hk);have ej : (3 : Int) ≤ ((aa.length : Int) : Int) := dA;obtain ⟨fq,cX,_,dy,_⟩ := info_parts info37;have b6 : aa.length ≤ aq := (Kd.N_reads' ab.out).2.1;have dz : Kd.F k37 _ _ b3 aa.length aa := (Kd.V_at (base := w.heap.size) (Kd.N_V ab.out)).2.2;have cq := cut_to (P := Tryd.prog) 22 37 .i64 Tryd.underlying22 cX b3 aa.length aq 3 (by omega) ej b6;have db := Kd.F_take (m := 3) dz (by omega);have dc : cn.length = (3 : Int).toNat := (by rw [cO.out,List.length_take];omega);rw [← cO.out] at db;rw [← dc] at cq;have cY := aK (show Kd.V k37 37 _ w.heap.size _ (.slice b3 cn.length aq) cn from Kd.V_mk (by omega) db);have eV := aK (show cn.length ≤ aq from by omega);clear db dz b6 cX dy;have fr := aK dc;clear dc;replace ej := eq_true ej)|(go_at_call 10;(with_reducible refine (manifest_Live.calls k _ _ cn av _ ?ai ?aj A5.out).mono ?_);(case ai => exact cM (Kd.V_reads' cY.out).2.2);(case aj => exact (Kd.V_reads' cY.out).2.1);rintro e fR ⟨fs,rfl,az,hb⟩;replace ab := aK (Kd.N_elder' (nM ab.out) (Kd.R_base az) hb);have ac := aK (Kd.R_lower az (below_size (bM HB.out)));replace HB := aK (below_step (bM HB.out) hb);(try clear hb);(try clear hk);(try clear az))|((with_reducible refine gate_dst (N := 15) rfl ?_);(try (refine gate_guard (by rfl) ?_;dsimp only));refine Kd.R_lit (Kd.int .i64) _ 3 ?hg (N := 15) ?hd (xs := ([1,2] : List Int)) (inner := [.int .i64 1,.int .i64 2]) (ok := fun _ => True) (okp := fun _ => True) ?hr ?hp (fun _ hk => hk) trivial (Below.refl _ _) (Nat.le_refl _) (by simp) ?_;(case hd => rfl);(case hg => rfl);(case hr => first|(go_simp;done)|(go_simp;rfl));(case hp => exact (Reps.one (show Kd.M (Kd.int .i64) _ _ _ 1 [.int .i64 1] from rfl) (Reps.one (show Kd.M (Kd.int .i64) _ _ _ 2 [.int .i64 2] from rfl) (Reps.none _ _))));intro ft fS b4 hb hg_ hnew_;clear hg_ hnew_;(first|rw [← cP.out] at b4|(simp only [Int.reduceToNat] at b4;rw [← cP.out] at b4));replace ab := aK (Kd.N_elder' (nM ab.out) (Kd.R_base b4) hb);have ad := aK (Kd.R_lower (Kd.R_new' b4 (Kd.R_lt (rM ac.out))) (below_size (bM HB.out)));replace ac := aK (Kd.R_elder' (rM ac.out) (Kd.R_base b4) hb);replace HB := aK (below_step (bM HB.out) hb);clear hb b4;obtain ⟨aA,aB,ek⟩ := Kd.R_slice ac.out;subst ek;obtain ⟨aC,aD,el⟩ := Kd.R_slice ad.out;subst el)|(go_at_call 9;(with_reducible refine (r33_SameInts.calls k _ _ av _ _ aw true _ ?ai ?aj ?a2 ?a3 A6.out).mono ?_);(case ai => exact cM (Kd.R_reads' ac.out).2.2);(case aj => exact (Kd.R_reads' ac.out).2.1);(case a2 => exact cM (Kd.R_reads' ad.out).2.2);(case a3 => exact (Kd.R_reads' ad.out).2.1);rintro e w' ⟨rfl,⟨nd,rfl⟩⟩;have em : (3 : Int) ≤ ((aa.length : Int) : Int) := dA;obtain ⟨fu,cZ,_,dB,_⟩ := info_parts info37;have b7 : aa.length ≤ aq := (Kd.N_reads' ab.out).2.1;have dC : Kd.F k37 _ _ b3 aa.length aa := (Kd.V_at (base := w.heap.size) (Kd.N_V ab.out)).2.2;(try clear cq);have dd := cut_to (P := Tryd.prog) 22 37 .i64 Tryd.underlying22 cZ b3 aa.length aq 3 (by omega) em b7;have de := Kd.F_take (m := 3) dC (by omega);have df : co.length = (3 : Int).toNat := (by rw [cQ.out,List.length_take];omega);rw [← cQ.out] at de;rw [← df] at dd;have c0 := aK (show Kd.V k37 37 _ w.heap.size _ (.slice b3 co.length aq) co from Kd.V_mk (by omega) de);have eW := aK (show co.length ≤ aq from by omega);clear de dC b7 cZ dB;have fv := aK df;clear df;replace em := eq_true em)|(go_at_call 12;(with_reducible refine (manifest_Dead.calls k _ _ co au _ ?ai ?aj A9.out).mono ?_);(case ai => exact cM (Kd.V_reads' c0.out).2.2);(case aj => exact (Kd.V_reads' c0.out).2.1);rintro e fT ⟨fw,rfl,az,hb⟩;replace ab := aK (Kd.N_elder' (nM ab.out) (Kd.R_base az) hb);have ae := aK (Kd.R_lower (Kd.R_new' (Kd.R_new' az (Kd.R_lt (rM ac.out))) (Kd.R_lt (rM ad.out))) (below_size (bM HB.out)));replace ac := aK (Kd.R_elder' (rM ac.out) (Kd.R_base az) hb);replace ad := aK (Kd.R_elder' (rM ad.out) (Kd.R_base az) hb);replace HB := aK (below_step (bM HB.out) hb);(try clear hb);(try clear hk);(try clear az))|((with_reducible refine gate_dst (N := 23) rfl ?_);(try (refine gate_guard (by rfl) ?_;dsimp only));refine Kd.R_lit (Kd.int .i64) _ 3 ?hg (N := 23) ?hd (xs := ([7,9] : List Int)) (inner := [.int .i64 7,.int .i64 9]) (ok := fun _ => True) (okp := fun _ => True) ?hr ?hp (fun _ hk => hk) trivial (Below.refl _ _) (Nat.le_refl _) (by simp) ?_;(case hd => rfl);(case hg => rfl);(case hr => first|(go_simp;done)|(go_simp;rfl));(case hp => exact (Reps.one (show Kd.M (Kd.int .i64) _ _ _ 7 [.int .i64 7] from rfl) (Reps.one (show Kd.M (Kd.int .i64) _ _ _ 9 [.int .i64 9] from rfl) (Reps.none _ _))));intro fx fU bp hb hg_ hnew_;clear hg_ hnew_;(first|rw [← cR.out] at bp|(simp only [Int.reduceToNat] at bp;rw [← cR.out] at bp));replace ab := aK (Kd.N_elder' (nM ab.out) (Kd.R_base bp) hb);have ag := aK (Kd.R_lower (Kd.R_new' (Kd.R_new' (Kd.R_new' bp (Kd.R_lt (rM ac.out))) (Kd.R_lt (rM ad.out))) (Kd.R_lt (rM ae.out))) (below_size (bM HB.out)));replace ac := aK (Kd.R_elder' (rM ac.out) (Kd.R_base bp) hb);replace ad := aK (Kd.R_elder' (rM ad.out) (Kd.R_base bp) hb);replace ae := aK (Kd.R_elder' (rM ae.out) (Kd.R_base bp) hb);replace HB := aK (below_step (bM HB.out) hb);clear hb bp;obtain ⟨aE,aF,en⟩ := Kd.R_slice ae.out;subst en;obtain ⟨aG,aH,ep⟩ := Kd.R_slice ag.out;subst ep)|(go_at_call 9;(with_reducible refine (r33_SameInts.calls k _ _ au _ _ ax true _ ?ai ?aj ?a2 ?a3 dN.out).mono ?_);(case ai => exact cM (Kd.R_reads' ae.out).2.2);(case aj => exact (Kd.R_reads' ae.out).2.1);(case a2 => exact cM (Kd.R_reads' ag.out).2.2);(case a3 => exact (Kd.R_reads' ag.out).2.1);rintro e w' ⟨rfl,⟨nd,rfl⟩⟩)|(go_at_call 10;(with_reducible refine (manifest_Live.calls k _ _ aa ao _ ?ai ?aj fd.out).mono ?_);(case ai => exact cM (Kd.N_reads' ab.out).2.2);(case aj => exact (Kd.N_reads' ab.out).2.1);rintro e fV ⟨fy,rfl,az,hb⟩;replace ab := aK (Kd.N_elder' (nM ab.out) (Kd.R_base az) hb);have ah := aK (Kd.R_lower (Kd.R_new' (Kd.R_new' (Kd.R_new' (Kd.R_new' az (Kd.R_lt (rM ac.out))) (Kd.R_lt (rM ad.out))) (Kd.R_lt (rM ae.out))) (Kd.R_lt (rM ag.out))) (below_size (bM HB.out)));replace ac := aK (Kd.R_elder' (rM ac.out) (Kd.R_base az) hb);replace ad := aK (Kd.R_elder' (rM ad.out) (Kd.R_base az) hb);replace ae := aK (Kd.R_elder' (rM ae.out) (Kd.R_base az) hb);replace ag := aK (Kd.R_elder' (rM ag.out) (Kd.R_base az) hb);replace HB := aK (below_step (bM HB.out) hb);(try clear hb);(try clear hk);(try clear az))|((with_reducible refine gate_dst (N := 30) rfl ?_);(try (refine gate_guard (by rfl) ?_;dsimp only));refine Kd.R_lit (Kd.int .i64) _ 3 ?hg (N := 30) ?hd (xs := ([3] : List Int)) (inner := [.int .i64 3]) (ok := fun _ => True) (okp := fun _ => True) ?hr ?hp (fun _ hk => hk) trivial (Below.refl _ _) (Nat.le_refl _) (by simp) ?_;(case hd => rfl);(case hg => rfl);(case hr => first|(go_simp;done)|(go_simp;rfl));(case hp => exact (Reps.one (show Kd.M (Kd.int .i64) _ _ _ 3 [.int .i64 3] from rfl) (Reps.none _ _)));intro fz fW bn hb hg_ hnew_;clear hg_ hnew_;(first|rw [← cS.out] at bn|(simp only [Int.reduceToNat] at bn;rw [← cS.out] at bn));replace ab := aK (Kd.N_elder' (nM ab.out) (Kd.R_base bn) hb);have ak := aK (Kd.R_lower (Kd.R_new' (Kd.R_new' (Kd.R_new' (Kd.R_new' (Kd.R_new' bn (Kd.R_lt (rM ac.out))) (Kd.R_lt (rM ad.out))) (Kd.R_lt (rM ae.out))) (Kd.R_lt (rM ag.out))) (Kd.R_lt (rM ah.out))) (below_size (bM HB.out)));replace ac := aK (Kd.R_elder' (rM ac.out) (Kd.R_base bn) hb);replace ad := aK (Kd.R_elder' (rM ad.out) (Kd.R_base bn) hb);replace ae := aK (Kd.R_elder' (rM ae.out) (Kd.R_base bn) hb);replace ag := aK (Kd.R_elder' (rM ag.out) (Kd.R_base bn) hb);replace ah := aK (Kd.R_elder' (rM ah.out) (Kd.R_base bn) hb);replace HB := aK (below_step (bM HB.out) hb);clear hb bn;obtain ⟨aI,aJ,er⟩ := Kd.R_slice ah.out;subst er;obtain ⟨aL,aM,es⟩ := Kd.R_slice ak.out;subst es)|(go_at_call 9;(with_reducible refine (r33_SameInts.calls k _ _ ao _ _ ay true _ ?ai ?aj ?a2 ?a3 fe.out).mono ?_);(case ai => exact cM (Kd.R_reads' ah.out).2.2);(case aj => exact (Kd.R_reads' ah.out).2.1);(case a2 => exact cM (Kd.R_reads' ak.out).2.2);(case a3 => exact (Kd.R_reads' ak.out).2.1);rintro e w' ⟨rfl,⟨nd,rfl⟩⟩)|(go_at_call 12;(with_reducible refine (manifest_Dead.calls k _ _ aa ap _ ?ai ?aj fg.out).mono ?_);(case ai => exact cM (Kd.N_reads' ab.out).2.2);(case aj => exact (Kd.N_reads' ab.out).2.1);rintro e fX ⟨fA,rfl,az,hb⟩;replace ab := aK (Kd.N_elder' (nM ab.out) (Kd.R_base az) hb);have an := aK (Kd.R_lower (Kd.R_new' (Kd.R_new' (Kd.R_new' (Kd.R_new' (Kd.R_new' (Kd.R_new' az (Kd.R_lt (rM ac.out))) (Kd.R_lt (rM ad.out))) (Kd.R_lt (rM ae.out))) (Kd.R_lt (rM ag.out))) (Kd.R_lt (rM ah.out))) (Kd.R_lt (rM ak.out))) (below_size (bM HB.out)));replace ac := aK (Kd.R_elder' (rM ac.out) (Kd.R_base az) hb);replace ad := aK (Kd.R_elder' (rM ad.out) (Kd.R_base az) hb);replace ae := aK (Kd.R_elder' (rM ae.out) (Kd.R_base az) hb);replace ag := aK (Kd.R_elder' (rM ag.out) (Kd.R_base az) hb);replace ah := aK (Kd.R_elder' (rM ah.out) (Kd.R_base az) hb);replace ak := aK (Kd.R_elder' (rM ak.out) (Kd.R_base az) hb);replace HB := aK (below_step (bM HB.out) hb);(try clear hb);(try clear hk);(try clear az);obtain ⟨aN,aO,et⟩ := Kd.R_slice an.out;subst et)|(go_at_call 19;refine calls_of_args (args' := #[.agg #[.int .i64 1,.int .i64 1,.int .i64 5,.slice none ([] : List Int).length 0,.slice none ([] : List Int).length 0,.slice none ([] : List ByteArray).length 0]]) (by first|with_reducible rfl|(simp only [List.length_nil];done)|(simp only [List.length_nil];with_reducible rfl)) ?_;(with_reducible refine (manifest_Encode.calls k 1 1 5 _ _ ([] : List Int) _ _ ([] : List Int) _ _ ([] : List ByteArray) bm _ ?ai ?aj ?a2 ?a3 ?dD ?dE fh.out).mono ?_);(case ai => exact Kd.C_nil _ _);(case aj => exact Nat.le_refl _);(case a2 => exact Kd.C_nil _ _);(case a3 => exact Nat.le_refl _);(case dD => exact Kd.C_nil _ _);(case dE => exact Nat.le_refl _);rintro e fB ⟨aP,rfl,az,hb⟩;replace ab := aK (Kd.N_elder' (nM ab.out) (Kd.R_base az) hb);replace ac := aK (Kd.R_below (rM ac.out) hb);replace ad := aK (Kd.R_below (rM ad.out) hb);replace ae := aK (Kd.R_below (rM ae.out) hb);replace ag := aK (Kd.R_below (rM ag.out) hb);replace ah := aK (Kd.R_below (rM ah.out) hb);replace ak := aK (Kd.R_below (rM ak.out) hb);replace an := aK (Kd.R_below (rM an.out) hb);have al := aK (Kd.R_lower az (below_size (bM HB.out)));replace HB := aK (below_step (bM HB.out) hb);(try clear hb);(try clear hk);(try clear az);have eX := own_string (P := Tryd.prog) Tryd.underlying29 Tryd.underlying5 Tryd.underlying9 (Kd.own_of_R al.out);have cJ : 0 ≤ (0 : Int) := (by omega);have cK : 0 < (aa.length : Int) := dA;obtain ⟨am,cr,cs,ct,cu,cv,cw,eu,bq,br,bs,a6,a7,a8,b8,b9,ca,cb,cc,cd⟩ := at_T37 (Kd.N_reads' ab.out).2.2 0 cJ cK;cases eu;obtain ⟨eY,dg,dh,bu⟩ := Kd.N_get ab.out z37 0 cJ (by first|exact cK|exact dA|(have e_ := (Kd.N_reads' ab.out).1;omega));obtain ⟨dP,dQ,dR,dS,dT,dU,rfl,bv,bx,bz,bB,bC,bD⟩ := k37_openF dh;have a9 := bu 3 _ rfl;rw [add_field _ _ 3 (by omega)] at a9;replace a9 := Option.some.inj (a9.symm.trans a6);injection a9 with hva_ hvn_ hvc_;rw [hva_] at bx;rw [hvc_] at bv;have ce := aK (show Kd.V (Kd.int .i64) 3 _ w.heap.size _ _ ((rd_T37 aa 0).f3) from Kd.V_mk bv bx);clear hva_ hvn_ hvc_ bx bv;have ba := bu 4 _ rfl;rw [add_field _ _ 4 (by omega)] at ba;replace ba := Option.some.inj (ba.symm.trans a7);injection ba with hva_ hvn_ hvc_;rw [hva_] at bB;rw [hvc_] at bz;have cf := aK (show Kd.V (Kd.int .i64) 3 _ w.heap.size _ _ ((rd_T37 aa 0).f4) from Kd.V_mk bz bB);clear hva_ hvn_ hvc_ bB bz;have bb := bu 5 _ rfl;rw [add_field _ _ 5 (by omega)] at bb;replace bb := Option.some.inj (bb.symm.trans a8);injection bb with hva_ hvn_ hvc_;rw [hva_] at bD;rw [hvc_] at bC;have cg := aK (show Kd.V Kd.string 9 _ w.heap.size _ _ ((rd_T37 aa 0).f5) from Kd.V_mk bC bD);clear hva_ hvn_ hvc_ bD bC;clear bu dg;have eZ : (0 < aa.length) = True := eq_true (by omega);(try rw [show ((0 : Int)).toNat = 0 from rfl] at bq);(try rw [show 0 * 6 = 0 from rfl] at bq);(try rw [Addr.add_zero'] at bq);(try rw [show ((0 : Int)).toNat = 0 from rfl] at br);(try rw [show 0 * 6 = 0 from rfl] at br);(try rw [Addr.add_zero'] at br);(try rw [show ((0 : Int)).toNat = 0 from rfl] at bs);(try rw [show 0 * 6 = 0 from rfl] at bs);(try rw [Addr.add_zero'] at bs);(try rw [show ((0 : Int)).toNat = 0 from rfl] at a6);(try rw [show 0 * 6 = 0 from rfl] at a6);(try rw [Addr.add_zero'] at a6);(try rw [show ((0 : Int)).toNat = 0 from rfl] at a7);(try rw [show 0 * 6 = 0 from rfl] at a7);(try rw [Addr.add_zero'] at a7);(try rw [show ((0 : Int)).toNat = 0 from rfl] at a8);(try rw [show 0 * 6 = 0 from rfl] at a8);(try rw [Addr.add_zero'] at a8);have dV := aK b9;have dW := aK b8;clear b9 b8;have dX := aK cb;have dY := aK ca;clear cb ca;have dZ := aK cd;have d0 := aK cc;clear cd cc;replace cJ := eq_true cJ;replace cK := eq_true cK)|((with_reducible refine gate_dst (N := 48) rfl ?_);(try (refine gate_guard (by rfl) ?_;dsimp only));refine Kd.N_lit k37 _ 37 ?hg (N' := 48) ?hd (xs := ([(⟨(rd_T37 aa 0).f0,(rd_T37 aa 0).f1,(rd_T37 aa 0).f2,(rd_T37 aa 0).f3,(rd_T37 aa 0).f4,(rd_T37 aa 0).f5⟩ : S37),(⟨2,1,1,([] : List Int),([] : List Int),([] : List ByteArray)⟩ : S37)] : List (S37))) (inner := [.int .i64 ((rd_T37 aa 0).f0),.int .i64 ((rd_T37 aa 0).f1),.int .i64 ((rd_T37 aa 0).f2),.slice cr ((rd_T37 aa 0).f3).length cs,.slice ct ((rd_T37 aa 0).f4).length cu,.slice cv ((rd_T37 aa 0).f5).length cw,.int .i64 2,.int .i64 1,.int .i64 1,.slice none 0 0,.slice none 0 0,.slice none 0 0]) (ok := (fun k_ => some k_ ≠ (.slice (some am) aa.length aq : Value).ownBlock ∧ some k_ ≠ (.slice aA av.length aB : Value).ownBlock ∧ some k_ ≠ (.slice aC aw.length aD : Value).ownBlock ∧ some k_ ≠ (.slice aE au.length aF : Value).ownBlock ∧ some k_ ≠ (.slice aG ax.length aH : Value).ownBlock ∧ some k_ ≠ (.slice aI ao.length aJ : Value).ownBlock ∧ some k_ ≠ (.slice aL ay.length aM : Value).ownBlock ∧ some k_ ≠ (.slice aN ap.length aO : Value).ownBlock ∧ some k_ ≠ (aP : Value).ownBlock)) (okp := (fun k_ => some k_ ≠ (.slice (some am) aa.length aq : Value).ownBlock ∧ some k_ ≠ (.slice aA av.length aB : Value).ownBlock ∧ some k_ ≠ (.slice aC aw.length aD : Value).ownBlock ∧ some k_ ≠ (.slice aE au.length aF : Value).ownBlock ∧ some k_ ≠ (.slice aG ax.length aH : Value).ownBlock ∧ some k_ ≠ (.slice aI ao.length aJ : Value).ownBlock ∧ some k_ ≠ (.slice aL ay.length aM : Value).ownBlock ∧ some k_ ≠ (.slice aN ap.length aO : Value).ownBlock ∧ some k_ ≠ (aP : Value).ownBlock)) ?hr ?hp (fun _ hk => hk) ((show ∀ k_,fB.heap.size ≤ k_ → (fun k_ => some k_ ≠ (.slice (some am) aa.length aq : Value).ownBlock ∧ some k_ ≠ (.slice aA av.length aB : Value).ownBlock ∧ some k_ ≠ (.slice aC aw.length aD : Value).ownBlock ∧ some k_ ≠ (.slice aE au.length aF : Value).ownBlock ∧ some k_ ≠ (.slice aG ax.length aH : Value).ownBlock ∧ some k_ ≠ (.slice aI ao.length aJ : Value).ownBlock ∧ some k_ ≠ (.slice aL ay.length aM : Value).ownBlock ∧ some k_ ≠ (.slice aN ap.length aO : Value).ownBlock ∧ some k_ ≠ (aP : Value).ownBlock) k_ from fun k_ hk => ⟨Kd.fresh' (Kd.N_lt (nM ab.out)) k_ hk,Kd.fresh' (Kd.R_lt (rM ac.out)) k_ hk,Kd.fresh' (Kd.R_lt (rM ad.out)) k_ hk,Kd.fresh' (Kd.R_lt (rM ae.out)) k_ hk,Kd.fresh' (Kd.R_lt (rM ag.out)) k_ hk,Kd.fresh' (Kd.R_lt (rM ah.out)) k_ hk,Kd.fresh' (Kd.R_lt (rM ak.out)) k_ hk,Kd.fresh' (Kd.R_lt (rM an.out)) k_ hk,Kd.fresh' (Kd.R_lt (rM al.out)) k_ hk⟩) _ (Nat.le_refl _)) (Below.refl _ _) (Nat.le_refl _) (by simp) ?_;(case hd => rfl);(case hg => rfl);(case hr => first|(go_simp;done)|(go_simp;rfl));(case hp => exact (Reps.c6 (show Kd.FK k37 _ _ (⟨(rd_T37 aa 0).f0,(rd_T37 aa 0).f1,(rd_T37 aa 0).f2,(rd_T37 aa 0).f3,(rd_T37 aa 0).f4,(rd_T37 aa 0).f5⟩ : S37) [.int .i64 ((rd_T37 aa 0).f0),.int .i64 ((rd_T37 aa 0).f1),.int .i64 ((rd_T37 aa 0).f2),.slice cr ((rd_T37 aa 0).f3).length cs,.slice ct ((rd_T37 aa 0).f4).length cu,.slice cv ((rd_T37 aa 0).f5).length cw] from (k37_mkF _ _ (⟨(rd_T37 aa 0).f0,(rd_T37 aa 0).f1,(rd_T37 aa 0).f2,(rd_T37 aa 0).f3,(rd_T37 aa 0).f4,(rd_T37 aa 0).f5⟩ : S37) (Kd.V_reads' (Kd.V_mono (ok' := (fun k_ => some k_ ≠ (.slice (some am) aa.length aq : Value).ownBlock ∧ some k_ ≠ (.slice aA av.length aB : Value).ownBlock ∧ some k_ ≠ (.slice aC aw.length aD : Value).ownBlock ∧ some k_ ≠ (.slice aE au.length aF : Value).ownBlock ∧ some k_ ≠ (.slice aG ax.length aH : Value).ownBlock ∧ some k_ ≠ (.slice aI ao.length aJ : Value).ownBlock ∧ some k_ ≠ (.slice aL ay.length aM : Value).ownBlock ∧ some k_ ≠ (.slice aN ap.length aO : Value).ownBlock ∧ some k_ ≠ (aP : Value).ownBlock)) (ce.out) (fun k_ hk => ⟨hk.2,⟨hk.1.1.1.1.1.1.1.1.2,⟨hk.1.1.1.1.1.1.1.2,⟨hk.1.1.1.1.1.1.2,⟨hk.1.1.1.1.1.2,⟨hk.1.1.1.1.2,⟨hk.1.1.1.2,⟨hk.1.1.2,hk.1.2⟩⟩⟩⟩⟩⟩⟩⟩))).2.1 (Kd.V_F (Kd.V_mono (ok' := (fun k_ => some k_ ≠ (.slice (some am) aa.length aq : Value).ownBlock ∧ some k_ ≠ (.slice aA av.length aB : Value).ownBlock ∧ some k_ ≠ (.slice aC aw.length aD : Value).ownBlock ∧ some k_ ≠ (.slice aE au.length aF : Value).ownBlock ∧ some k_ ≠ (.slice aG ax.length aH : Value).ownBlock ∧ some k_ ≠ (.slice aI ao.length aJ : Value).ownBlock ∧ some k_ ≠ (.slice aL ay.length aM : Value).ownBlock ∧ some k_ ≠ (.slice aN ap.length aO : Value).ownBlock ∧ some k_ ≠ (aP : Value).ownBlock)) (ce.out) (fun k_ hk => ⟨hk.2,⟨hk.1.1.1.1.1.1.1.1.2,⟨hk.1.1.1.1.1.1.1.2,⟨hk.1.1.1.1.1.1.2,⟨hk.1.1.1.1.1.2,⟨hk.1.1.1.1.2,⟨hk.1.1.1.2,⟨hk.1.1.2,hk.1.2⟩⟩⟩⟩⟩⟩⟩⟩))) (Kd.V_reads' (Kd.V_mono (ok' := (fun k_ => some k_ ≠ (.slice (some am) aa.length aq : Value).ownBlock ∧ some k_ ≠ (.slice aA av.length aB : Value).ownBlock ∧ some k_ ≠ (.slice aC aw.length aD : Value).ownBlock ∧ some k_ ≠ (.slice aE au.length aF : Value).ownBlock ∧ some k_ ≠ (.slice aG ax.length aH : Value).ownBlock ∧ some k_ ≠ (.slice aI ao.length aJ : Value).ownBlock ∧ some k_ ≠ (.slice aL ay.length aM : Value).ownBlock ∧ some k_ ≠ (.slice aN ap.length aO : Value).ownBlock ∧ some k_ ≠ (aP : Value).ownBlock)) (cf.out) (fun k_ hk => ⟨hk.2,⟨hk.1.1.1.1.1.1.1.1.2,⟨hk.1.1.1.1.1.1.1.2,⟨hk.1.1.1.1.1.1.2,⟨hk.1.1.1.1.1.2,⟨hk.1.1.1.1.2,⟨hk.1.1.1.2,⟨hk.1.1.2,hk.1.2⟩⟩⟩⟩⟩⟩⟩⟩))).2.1 (Kd.V_F (Kd.V_mono (ok' := (fun k_ => some k_ ≠ (.slice (some am) aa.length aq : Value).ownBlock ∧ some k_ ≠ (.slice aA av.length aB : Value).ownBlock ∧ some k_ ≠ (.slice aC aw.length aD : Value).ownBlock ∧ some k_ ≠ (.slice aE au.length aF : Value).ownBlock ∧ some k_ ≠ (.slice aG ax.length aH : Value).ownBlock ∧ some k_ ≠ (.slice aI ao.length aJ : Value).ownBlock ∧ some k_ ≠ (.slice aL ay.length aM : Value).ownBlock ∧ some k_ ≠ (.slice aN ap.length aO : Value).ownBlock ∧ some k_ ≠ (aP : Value).ownBlock)) (cf.out) (fun k_ hk => ⟨hk.2,⟨hk.1.1.1.1.1.1.1.1.2,⟨hk.1.1.1.1.1.1.1.2,⟨hk.1.1.1.1.1.1.2,⟨hk.1.1.1.1.1.2,⟨hk.1.1.1.1.2,⟨hk.1.1.1.2,⟨hk.1.1.2,hk.1.2⟩⟩⟩⟩⟩⟩⟩⟩))) (Kd.V_reads' (Kd.V_mono (ok' := (fun k_ => some k_ ≠ (.slice (some am) aa.length aq : Value).ownBlock ∧ some k_ ≠ (.slice aA av.length aB : Value).ownBlock ∧ some k_ ≠ (.slice aC aw.length aD : Value).ownBlock ∧ some k_ ≠ (.slice aE au.length aF : Value).ownBlock ∧ some k_ ≠ (.slice aG ax.length aH : Value).ownBlock ∧ some k_ ≠ (.slice aI ao.length aJ : Value).ownBlock ∧ some k_ ≠ (.slice aL ay.length aM : Value).ownBlock ∧ some k_ ≠ (.slice aN ap.length aO : Value).ownBlock ∧ some k_ ≠ (aP : Value).ownBlock)) (cg.out) (fun k_ hk => ⟨hk.2,⟨hk.1.1.1.1.1.1.1.1.2,⟨hk.1.1.1.1.1.1.1.2,⟨hk.1.1.1.1.1.1.2,⟨hk.1.1.1.1.1.2,⟨hk.1.1.1.1.2,⟨hk.1.1.1.2,⟨hk.1.1.2,hk.1.2⟩⟩⟩⟩⟩⟩⟩⟩))).2.1 (Kd.V_F (Kd.V_mono (ok' := (fun k_ => some k_ ≠ (.slice (some am) aa.length aq : Value).ownBlock ∧ some k_ ≠ (.slice aA av.length aB : Value).ownBlock ∧ some k_ ≠ (.slice aC aw.length aD : Value).ownBlock ∧ some k_ ≠ (.slice aE au.length aF : Value).ownBlock ∧ some k_ ≠ (.slice aG ax.length aH : Value).ownBlock ∧ some k_ ≠ (.slice aI ao.length aJ : Value).ownBlock ∧ some k_ ≠ (.slice aL ay.length aM : Value).ownBlock ∧ some k_ ≠ (.slice aN ap.length aO : Value).ownBlock ∧ some k_ ≠ (aP : Value).ownBlock)) (cg.out) (fun k_ hk => ⟨hk.2,⟨hk.1.1.1.1.1.1.1.1.2,⟨hk.1.1.1.1.1.1.1.2,⟨hk.1.1.1.1.1.1.2,⟨hk.1.1.1.1.1.2,⟨hk.1.1.1.1.2,⟨hk.1.1.1.2,⟨hk.1.1.2,hk.1.2⟩⟩⟩⟩⟩⟩⟩⟩))))) (Reps.c6 (show Kd.FK k37 _ _ (⟨2,1,1,([] : List Int),([] : List Int),([] : List ByteArray)⟩ : S37) [.int .i64 2,.int .i64 1,.int .i64 1,.slice none 0 0,.slice none 0 0,.slice none 0 0] from (k37_mkF _ _ (⟨2,1,1,([] : List Int),([] : List Int),([] : List ByteArray)⟩ : S37) (Nat.le_refl _) (Kd.F_nil _ _ _) (Nat.le_refl _) (Kd.F_nil _ _ _) (Nat.le_refl _) (Kd.F_nil _ _ _))) (Reps.none _ _))));intro fC fY cp hb hg_ hnew_;clear hg_ hnew_;(first|rw [← cT.out] at cp|(simp only [Int.reduceToNat] at cp;rw [← cT.out] at cp));replace ab := aK (Kd.N_elder' (nM ab.out) (Kd.N_base cp) hb);replace ac := aK (Kd.R_below (rM ac.out) hb);replace ad := aK (Kd.R_below (rM ad.out) hb);replace ae := aK (Kd.R_below (rM ae.out) hb);replace ag := aK (Kd.R_below (rM ag.out) hb);replace ah := aK (Kd.R_below (rM ah.out) hb);replace ak := aK (Kd.R_below (rM ak.out) hb);replace an := aK (Kd.R_below (rM an.out) hb);replace al := aK (Kd.R_below (rM al.out) hb);have ar := aK (Kd.N_lower cp (below_size (bM HB.out)));replace HB := aK (below_step (bM HB.out) hb);clear hb cp;obtain ⟨a0,a1,ev⟩ := Kd.N_slice ar.out;subst ev)|((with_reducible refine gate_callee (f := 21) rfl ?_);refine gL 49 Tryd.func21 #[.slice a0 aW.length a1] ?_;(with_reducible refine (manifest_Right.calls k _ _ aW aX _ ?ai ?aj dO.out).mono ?_);(case ai => exact cM (Kd.N_reads' ar.out).2.2);(case aj => exact (Kd.N_reads' ar.out).2.1);rintro e fZ ⟨rfl,hb⟩;refine ⟨_,rfl,?_⟩;replace ab := aK (Kd.N_below (nM ab.out) hb);replace ac := aK (Kd.R_below (rM ac.out) hb);replace ad := aK (Kd.R_below (rM ad.out) hb);replace ae := aK (Kd.R_below (rM ae.out) hb);replace ag := aK (Kd.R_below (rM ag.out) hb);replace ah := aK (Kd.R_below (rM ah.out) hb);replace ak := aK (Kd.R_below (rM ak.out) hb);replace an := aK (Kd.R_below (rM an.out) hb);replace al := aK (Kd.R_below (rM al.out) hb);replace ar := aK (Kd.N_below (nM ar.out) hb);replace HB := aK (below_step (bM HB.out) hb);(try clear hb);(try clear hk);have cL : 0 ≤ (0 : Int) := (by omega);have cN : 0 < (aa.length : Int) := dA;obtain ⟨dF,cx,cy,cz,cA,cB,cC,ew,bE,bF,bH,bc,bd,be,ch,ci,cj,ck,cl,cm⟩ := at_T37 (Kd.N_reads' ab.out).2.2 0 cL cN;obtain rfl : am = dF := (by injection ew);obtain ⟨e0,di,dj,bI⟩ := Kd.N_get ab.out z37 0 cL (by first|exact cN|exact dA|(have e_ := (Kd.N_reads' ab.out).1;omega));obtain ⟨d1,d2,d3,d4,d5,d6,rfl,bJ,bK,bL,bN,bO,bP⟩ := k37_openF dj;have bf := bI 3 _ rfl;rw [add_field _ _ 3 (by omega)] at bf;replace bf := Option.some.inj (bf.symm.trans bc);injection bf with hva_ hvn_ hvc_;rw [hva_] at bK;rw [hvc_] at bJ;have bg := aK (show Kd.V (Kd.int .i64) 3 _ w.heap.size _ _ ((rd_T37 aa 0).f3) from Kd.V_mk bJ bK);clear hva_ hvn_ hvc_ bK bJ;have bh := bI 4 _ rfl;rw [add_field _ _ 4 (by omega)] at bh;replace bh := Option.some.inj (bh.symm.trans bd);injection bh with hva_ hvn_ hvc_;rw [hva_] at bN;rw [hvc_] at bL;have bi := aK (show Kd.V (Kd.int .i64) 3 _ w.heap.size _ _ ((rd_T37 aa 0).f4) from Kd.V_mk bL bN);clear hva_ hvn_ hvc_ bN bL;have bj := bI 5 _ rfl;rw [add_field _ _ 5 (by omega)] at bj;replace bj := Option.some.inj (bj.symm.trans be);injection bj with hva_ hvn_ hvc_;rw [hva_] at bP;rw [hvc_] at bO;have bk := aK (show Kd.V Kd.string 9 _ w.heap.size _ _ ((rd_T37 aa 0).f5) from Kd.V_mk bO bP);clear hva_ hvn_ hvc_ bP bO;clear bI di;have e5 : (0 < aa.length) = True := eq_true (by omega);(try rw [show ((0 : Int)).toNat = 0 from rfl] at bE);(try rw [show 0 * 6 = 0 from rfl] at bE);(try rw [Addr.add_zero'] at bE);(try rw [show ((0 : Int)).toNat = 0 from rfl] at bF);(try rw [show 0 * 6 = 0 from rfl] at bF);(try rw [Addr.add_zero'] at bF);(try rw [show ((0 : Int)).toNat = 0 from rfl] at bH);(try rw [show 0 * 6 = 0 from rfl] at bH);(try rw [Addr.add_zero'] at bH);(try rw [show ((0 : Int)).toNat = 0 from rfl] at bc);(try rw [show 0 * 6 = 0 from rfl] at bc);(try rw [Addr.add_zero'] at bc);(try rw [show ((0 : Int)).toNat = 0 from rfl] at bd);(try rw [show 0 * 6 = 0 from rfl] at bd);(try rw [Addr.add_zero'] at bd);(try rw [show ((0 : Int)).toNat = 0 from rfl] at be);(try rw [show 0 * 6 = 0 from rfl] at be);(try rw [Addr.add_zero'] at be);have d7 := aK ci;have d8 := aK ch;clear ci ch;have d9 := aK ck;have ea := aK cj;clear ck cj;have eb := aK cm;have ec := aK cl;clear cm cl;replace cL := eq_true cL;replace cN := eq_true cN)|((with_reducible refine gate_dst (N := 53) rfl ?_);(try (refine gate_guard (by rfl) ?_;dsimp only));refine Kd.R_lit (Kd.int .i64) _ 3 ?hg (N := 53) ?hd (xs := ([4] : List Int)) (inner := [.int .i64 4]) (ok := fun _ => True) (okp := fun _ => True) ?hr ?hp (fun _ hk => hk) trivial (Below.refl _ _) (Nat.le_refl _) (by simp) ?_;(case hd => rfl);(case hg => rfl);(case hr => first|(go_simp;done)|(go_simp;rfl));(case hp => exact (Reps.one (show Kd.M (Kd.int .i64) _ _ _ 4 [.int .i64 4] from rfl) (Reps.none _ _)));intro fD fE aZ hb hg_ hnew_;clear hg_ hnew_;(first|rw [← cU.out] at aZ|(simp only [Int.reduceToNat] at aZ;rw [← cU.out] at aZ));replace ab := aK (Kd.N_elder' (nM ab.out) (Kd.R_base aZ) hb);replace al := aK (Kd.R_below (rM al.out) hb);replace ar := aK (Kd.N_elder' (nM ar.out) (Kd.R_base aZ) hb);replace bg := aK (Kd.V_elder' (vM bg.out) (Kd.R_base aZ) hb);replace bi := aK (Kd.V_elder' (vM bi.out) (Kd.R_base aZ) hb);replace bk := aK (Kd.V_elder' (vM bk.out) (Kd.R_base aZ) hb);have cD := aK (Kd.R_lower (Kd.R_new' (Kd.R_new' (Kd.R_new' (Kd.R_new' (Kd.R_new' (Kd.R_new' (Kd.R_new' aZ (Kd.R_lt (rM ac.out))) (Kd.R_lt (rM ad.out))) (Kd.R_lt (rM ae.out))) (Kd.R_lt (rM ag.out))) (Kd.R_lt (rM ah.out))) (Kd.R_lt (rM ak.out))) (Kd.R_lt (rM an.out))) (below_size (bM HB.out)));replace ac := aK (Kd.R_elder' (rM ac.out) (Kd.R_base aZ) hb);replace ad := aK (Kd.R_elder' (rM ad.out) (Kd.R_base aZ) hb);replace ae := aK (Kd.R_elder' (rM ae.out) (Kd.R_base aZ) hb);replace ag := aK (Kd.R_elder' (rM ag.out) (Kd.R_base aZ) hb);replace ah := aK (Kd.R_elder' (rM ah.out) (Kd.R_base aZ) hb);replace ak := aK (Kd.R_elder' (rM ak.out) (Kd.R_base aZ) hb);replace an := aK (Kd.R_elder' (rM an.out) (Kd.R_base aZ) hb);replace HB := aK (below_step (bM HB.out) hb);clear hb aZ;obtain ⟨dG,dH,ex⟩ := Kd.R_slice cD.out;subst ex)|((with_reducible refine gate_dst (N := 55) rfl ?_);(try (refine gate_guard (by rfl) ?_;dsimp only));refine Kd.N_lit k37 _ 37 ?hg (N' := 55) ?hd (xs := ([(⟨(rd_T37 aa 0).f0,(rd_T37 aa 0).f1,(rd_T37 aa 0).f2,(rd_T37 aa 0).f3,(rd_T37 aa 0).f4,(rd_T37 aa 0).f5⟩ : S37),(⟨2,3,2,([] : List Int),b1,([] : List ByteArray)⟩ : S37)] : List (S37))) (inner := [.int .i64 ((rd_T37 aa 0).f0),.int .i64 ((rd_T37 aa 0).f1),.int .i64 ((rd_T37 aa 0).f2),.slice cx ((rd_T37 aa 0).f3).length cy,.slice cz ((rd_T37 aa 0).f4).length cA,.slice cB ((rd_T37 aa 0).f5).length cC,.int .i64 2,.int .i64 3,.int .i64 2,.slice none 0 0,.slice dG b1.length dH,.slice none 0 0]) (ok := (fun k_ => some k_ ≠ (.slice (some am) aa.length aq : Value).ownBlock ∧ some k_ ≠ (.slice aA av.length aB : Value).ownBlock ∧ some k_ ≠ (.slice aC aw.length aD : Value).ownBlock ∧ some k_ ≠ (.slice aE au.length aF : Value).ownBlock ∧ some k_ ≠ (.slice aG ax.length aH : Value).ownBlock ∧ some k_ ≠ (.slice aI ao.length aJ : Value).ownBlock ∧ some k_ ≠ (.slice aL ay.length aM : Value).ownBlock ∧ some k_ ≠ (.slice aN ap.length aO : Value).ownBlock ∧ some k_ ≠ (aP : Value).ownBlock ∧ some k_ ≠ (.slice a0 aW.length a1 : Value).ownBlock)) (okp := (fun k_ => some k_ ≠ (.slice (some am) aa.length aq : Value).ownBlock ∧ some k_ ≠ (.slice aA av.length aB : Value).ownBlock ∧ some k_ ≠ (.slice aC aw.length aD : Value).ownBlock ∧ some k_ ≠ (.slice aE au.length aF : Value).ownBlock ∧ some k_ ≠ (.slice aG ax.length aH : Value).ownBlock ∧ some k_ ≠ (.slice aI ao.length aJ : Value).ownBlock ∧ some k_ ≠ (.slice aL ay.length aM : Value).ownBlock ∧ some k_ ≠ (.slice aN ap.length aO : Value).ownBlock ∧ some k_ ≠ (aP : Value).ownBlock ∧ some k_ ≠ (.slice a0 aW.length a1 : Value).ownBlock)) ?hr ?hp (fun _ hk => hk) ((show ∀ k_,fE.heap.size ≤ k_ → (fun k_ => some k_ ≠ (.slice (some am) aa.length aq : Value).ownBlock ∧ some k_ ≠ (.slice aA av.length aB : Value).ownBlock ∧ some k_ ≠ (.slice aC aw.length aD : Value).ownBlock ∧ some k_ ≠ (.slice aE au.length aF : Value).ownBlock ∧ some k_ ≠ (.slice aG ax.length aH : Value).ownBlock ∧ some k_ ≠ (.slice aI ao.length aJ : Value).ownBlock ∧ some k_ ≠ (.slice aL ay.length aM : Value).ownBlock ∧ some k_ ≠ (.slice aN ap.length aO : Value).ownBlock ∧ some k_ ≠ (aP : Value).ownBlock ∧ some k_ ≠ (.slice a0 aW.length a1 : Value).ownBlock) k_ from fun k_ hk => ⟨Kd.fresh' (Kd.N_lt (nM ab.out)) k_ hk,Kd.fresh' (Kd.R_lt (rM ac.out)) k_ hk,Kd.fresh' (Kd.R_lt (rM ad.out)) k_ hk,Kd.fresh' (Kd.R_lt (rM ae.out)) k_ hk,Kd.fresh' (Kd.R_lt (rM ag.out)) k_ hk,Kd.fresh' (Kd.R_lt (rM ah.out)) k_ hk,Kd.fresh' (Kd.R_lt (rM ak.out)) k_ hk,Kd.fresh' (Kd.R_lt (rM an.out)) k_ hk,Kd.fresh' (Kd.R_lt (rM al.out)) k_ hk,Kd.fresh' (Kd.N_lt (nM ar.out)) k_ hk⟩) _ (Nat.le_refl _)) (Below.refl _ _) (Nat.le_refl _) (by simp) ?_;(case hd => rfl);(case hg => rfl);(case hr => first|(go_simp;done)|(go_simp;rfl));(case hp => exact (Reps.c6 (show Kd.FK k37 _ _ (⟨(rd_T37 aa 0).f0,(rd_T37 aa 0).f1,(rd_T37 aa 0).f2,(rd_T37 aa 0).f3,(rd_T37 aa 0).f4,(rd_T37 aa 0).f5⟩ : S37) [.int .i64 ((rd_T37 aa 0).f0),.int .i64 ((rd_T37 aa 0).f1),.int .i64 ((rd_T37 aa 0).f2),.slice cx ((rd_T37 aa 0).f3).length cy,.slice cz ((rd_T37 aa 0).f4).length cA,.slice cB ((rd_T37 aa 0).f5).length cC] from (k37_mkF _ _ (⟨(rd_T37 aa 0).f0,(rd_T37 aa 0).f1,(rd_T37 aa 0).f2,(rd_T37 aa 0).f3,(rd_T37 aa 0).f4,(rd_T37 aa 0).f5⟩ : S37) (Kd.V_reads' (Kd.V_mono (ok' := (fun k_ => some k_ ≠ (.slice (some am) aa.length aq : Value).ownBlock ∧ some k_ ≠ (.slice aA av.length aB : Value).ownBlock ∧ some k_ ≠ (.slice aC aw.length aD : Value).ownBlock ∧ some k_ ≠ (.slice aE au.length aF : Value).ownBlock ∧ some k_ ≠ (.slice aG ax.length aH : Value).ownBlock ∧ some k_ ≠ (.slice aI ao.length aJ : Value).ownBlock ∧ some k_ ≠ (.slice aL ay.length aM : Value).ownBlock ∧ some k_ ≠ (.slice aN ap.length aO : Value).ownBlock ∧ some k_ ≠ (aP : Value).ownBlock ∧ some k_ ≠ (.slice a0 aW.length a1 : Value).ownBlock)) (bg.out) (fun k_ hk => ⟨hk.1.2,⟨hk.1.1.1.1.1.1.1.1.1.1.2,⟨hk.1.1.1.1.1.1.1.1.1.2,⟨hk.1.1.1.1.1.1.1.1.2,⟨hk.1.1.1.1.1.1.1.2,⟨hk.1.1.1.1.1.1.2,⟨hk.1.1.1.1.1.2,⟨hk.1.1.1.1.2,⟨hk.1.1.1.2,hk.1.1.2⟩⟩⟩⟩⟩⟩⟩⟩⟩))).2.1 (Kd.V_F (Kd.V_mono (ok' := (fun k_ => some k_ ≠ (.slice (some am) aa.length aq : Value).ownBlock ∧ some k_ ≠ (.slice aA av.length aB : Value).ownBlock ∧ some k_ ≠ (.slice aC aw.length aD : Value).ownBlock ∧ some k_ ≠ (.slice aE au.length aF : Value).ownBlock ∧ some k_ ≠ (.slice aG ax.length aH : Value).ownBlock ∧ some k_ ≠ (.slice aI ao.length aJ : Value).ownBlock ∧ some k_ ≠ (.slice aL ay.length aM : Value).ownBlock ∧ some k_ ≠ (.slice aN ap.length aO : Value).ownBlock ∧ some k_ ≠ (aP : Value).ownBlock ∧ some k_ ≠ (.slice a0 aW.length a1 : Value).ownBlock)) (bg.out) (fun k_ hk => ⟨hk.1.2,⟨hk.1.1.1.1.1.1.1.1.1.1.2,⟨hk.1.1.1.1.1.1.1.1.1.2,⟨hk.1.1.1.1.1.1.1.1.2,⟨hk.1.1.1.1.1.1.1.2,⟨hk.1.1.1.1.1.1.2,⟨hk.1.1.1.1.1.2,⟨hk.1.1.1.1.2,⟨hk.1.1.1.2,hk.1.1.2⟩⟩⟩⟩⟩⟩⟩⟩⟩))) (Kd.V_reads' (Kd.V_mono (ok' := (fun k_ => some k_ ≠ (.slice (some am) aa.length aq : Value).ownBlock ∧ some k_ ≠ (.slice aA av.length aB : Value).ownBlock ∧ some k_ ≠ (.slice aC aw.length aD : Value).ownBlock ∧ some k_ ≠ (.slice aE au.length aF : Value).ownBlock ∧ some k_ ≠ (.slice aG ax.length aH : Value).ownBlock ∧ some k_ ≠ (.slice aI ao.length aJ : Value).ownBlock ∧ some k_ ≠ (.slice aL ay.length aM : Value).ownBlock ∧ some k_ ≠ (.slice aN ap.length aO : Value).ownBlock ∧ some k_ ≠ (aP : Value).ownBlock ∧ some k_ ≠ (.slice a0 aW.length a1 : Value).ownBlock)) (bi.out) (fun k_ hk => ⟨hk.1.2,⟨hk.1.1.1.1.1.1.1.1.1.1.2,⟨hk.1.1.1.1.1.1.1.1.1.2,⟨hk.1.1.1.1.1.1.1.1.2,⟨hk.1.1.1.1.1.1.1.2,⟨hk.1.1.1.1.1.1.2,⟨hk.1.1.1.1.1.2,⟨hk.1.1.1.1.2,⟨hk.1.1.1.2,hk.1.1.2⟩⟩⟩⟩⟩⟩⟩⟩⟩))).2.1 (Kd.V_F (Kd.V_mono (ok' := (fun k_ => some k_ ≠ (.slice (some am) aa.length aq : Value).ownBlock ∧ some k_ ≠ (.slice aA av.length aB : Value).ownBlock ∧ some k_ ≠ (.slice aC aw.length aD : Value).ownBlock ∧ some k_ ≠ (.slice aE au.length aF : Value).ownBlock ∧ some k_ ≠ (.slice aG ax.length aH : Value).ownBlock ∧ some k_ ≠ (.slice aI ao.length aJ : Value).ownBlock ∧ some k_ ≠ (.slice aL ay.length aM : Value).ownBlock ∧ some k_ ≠ (.slice aN ap.length aO : Value).ownBlock ∧ some k_ ≠ (aP : Value).ownBlock ∧ some k_ ≠ (.slice a0 aW.length a1 : Value).ownBlock)) (bi.out) (fun k_ hk => ⟨hk.1.2,⟨hk.1.1.1.1.1.1.1.1.1.1.2,⟨hk.1.1.1.1.1.1.1.1.1.2,⟨hk.1.1.1.1.1.1.1.1.2,⟨hk.1.1.1.1.1.1.1.2,⟨hk.1.1.1.1.1.1.2,⟨hk.1.1.1.1.1.2,⟨hk.1.1.1.1.2,⟨hk.1.1.1.2,hk.1.1.2⟩⟩⟩⟩⟩⟩⟩⟩⟩))) (Kd.V_reads' (Kd.V_mono (ok' := (fun k_ => some k_ ≠ (.slice (some am) aa.length aq : Value).ownBlock ∧ some k_ ≠ (.slice aA av.length aB : Value).ownBlock ∧ some k_ ≠ (.slice aC aw.length aD : Value).ownBlock ∧ some k_ ≠ (.slice aE au.length aF : Value).ownBlock ∧ some k_ ≠ (.slice aG ax.length aH : Value).ownBlock ∧ some k_ ≠ (.slice aI ao.length aJ : Value).ownBlock ∧ some k_ ≠ (.slice aL ay.length aM : Value).ownBlock ∧ some k_ ≠ (.slice aN ap.length aO : Value).ownBlock ∧ some k_ ≠ (aP : Value).ownBlock ∧ some k_ ≠ (.slice a0 aW.length a1 : Value).ownBlock)) (bk.out) (fun k_ hk => ⟨hk.1.2,⟨hk.1.1.1.1.1.1.1.1.1.1.2,⟨hk.1.1.1.1.1.1.1.1.1.2,⟨hk.1.1.1.1.1.1.1.1.2,⟨hk.1.1.1.1.1.1.1.2,⟨hk.1.1.1.1.1.1.2,⟨hk.1.1.1.1.1.2,⟨hk.1.1.1.1.2,⟨hk.1.1.1.2,hk.1.1.2⟩⟩⟩⟩⟩⟩⟩⟩⟩))).2.1 (Kd.V_F (Kd.V_mono (ok' := (fun k_ => some k_ ≠ (.slice (some am) aa.length aq : Value).ownBlock ∧ some k_ ≠ (.slice aA av.length aB : Value).ownBlock ∧ some k_ ≠ (.slice aC aw.length aD : Value).ownBlock ∧ some k_ ≠ (.slice aE au.length aF : Value).ownBlock ∧ some k_ ≠ (.slice aG ax.length aH : Value).ownBlock ∧ some k_ ≠ (.slice aI ao.length aJ : Value).ownBlock ∧ some k_ ≠ (.slice aL ay.length aM : Value).ownBlock ∧ some k_ ≠ (.slice aN ap.length aO : Value).ownBlock ∧ some k_ ≠ (aP : Value).ownBlock ∧ some k_ ≠ (.slice a0 aW.length a1 : Value).ownBlock)) (bk.out) (fun k_ hk => ⟨hk.1.2,⟨hk.1.1.1.1.1.1.1.1.1.1.2,⟨hk.1.1.1.1.1.1.1.1.1.2,⟨hk.1.1.1.1.1.1.1.1.2,⟨hk.1.1.1.1.1.1.1.2,⟨hk.1.1.1.1.1.1.2,⟨hk.1.1.1.1.1.2,⟨hk.1.1.1.1.2,⟨hk.1.1.1.2,hk.1.1.2⟩⟩⟩⟩⟩⟩⟩⟩⟩))))) (Reps.c6 (show Kd.FK k37 _ _ (⟨2,3,2,([] : List Int),b1,([] : List ByteArray)⟩ : S37) [.int .i64 2,.int .i64 3,.int .i64 2,.slice none 0 0,.slice dG b1.length dH,.slice none 0 0] from (k37_mkF _ _ (⟨2,3,2,([] : List Int),b1,([] : List ByteArray)⟩ : S37) (Nat.le_refl _) (Kd.F_nil _ _ _) (Kd.R_reads' (Kd.R_mono (ok' := (fun k_ => some k_ ≠ (.slice (some am) aa.length aq : Value).ownBlock ∧ some k_ ≠ (.slice aA av.length aB : Value).ownBlock ∧ some k_ ≠ (.slice aC aw.length aD : Value).ownBlock ∧ some k_ ≠ (.slice aE au.length aF : Value).ownBlock ∧ some k_ ≠ (.slice aG ax.length aH : Value).ownBlock ∧ some k_ ≠ (.slice aI ao.length aJ : Value).ownBlock ∧ some k_ ≠ (.slice aL ay.length aM : Value).ownBlock ∧ some k_ ≠ (.slice aN ap.length aO : Value).ownBlock ∧ some k_ ≠ (aP : Value).ownBlock ∧ some k_ ≠ (.slice a0 aW.length a1 : Value).ownBlock)) (Kd.R_apart' (Kd.R_apart' (Kd.R_apart' (cD.out) (Kd.N_typed ab.out) (by decide)) (Kd.R_typed al.out) (by decide)) (Kd.N_typed ar.out) (by decide)) (fun k_ hk => ⟨hk.1.1.2,⟨hk.1.1.1.1.1.1.1.1.1.2,⟨hk.1.1.1.1.1.1.1.1.2,⟨hk.1.1.1.1.1.1.1.2,⟨hk.1.1.1.1.1.1.2,⟨hk.1.1.1.1.1.2,⟨hk.1.1.1.1.2,⟨hk.1.1.1.2,⟨hk.1.2,hk.2⟩⟩⟩⟩⟩⟩⟩⟩⟩))).2.1 (Kd.R_F (Kd.R_mono (ok' := (fun k_ => some k_ ≠ (.slice (some am) aa.length aq : Value).ownBlock ∧ some k_ ≠ (.slice aA av.length aB : Value).ownBlock ∧ some k_ ≠ (.slice aC aw.length aD : Value).ownBlock ∧ some k_ ≠ (.slice aE au.length aF : Value).ownBlock ∧ some k_ ≠ (.slice aG ax.length aH : Value).ownBlock ∧ some k_ ≠ (.slice aI ao.length aJ : Value).ownBlock ∧ some k_ ≠ (.slice aL ay.length aM : Value).ownBlock ∧ some k_ ≠ (.slice aN ap.length aO : Value).ownBlock ∧ some k_ ≠ (aP : Value).ownBlock ∧ some k_ ≠ (.slice a0 aW.length a1 : Value).ownBlock)) (Kd.R_apart' (Kd.R_apart' (Kd.R_apart' (cD.out) (Kd.N_typed ab.out) (by decide)) (Kd.R_typed al.out) (by decide)) (Kd.N_typed ar.out) (by decide)) (fun k_ hk => ⟨hk.1.1.2,⟨hk.1.1.1.1.1.1.1.1.1.2,⟨hk.1.1.1.1.1.1.1.1.2,⟨hk.1.1.1.1.1.1.1.2,⟨hk.1.1.1.1.1.1.2,⟨hk.1.1.1.1.1.2,⟨hk.1.1.1.1.2,⟨hk.1.1.1.2,⟨hk.1.2,hk.2⟩⟩⟩⟩⟩⟩⟩⟩⟩))) (Nat.le_refl _) (Kd.F_nil _ _ _))) (Reps.none _ _))));intro fF f6 b5 hb hg_ hnew_;clear hg_ hnew_;(first|rw [← cV.out] at b5|(simp only [Int.reduceToNat] at b5;rw [← cV.out] at b5));replace ab := aK (Kd.N_elder' (nM ab.out) (Kd.N_base b5) hb);replace ac := aK (Kd.R_below (rM ac.out) hb);replace ad := aK (Kd.R_below (rM ad.out) hb);replace ae := aK (Kd.R_below (rM ae.out) hb);replace ag := aK (Kd.R_below (rM ag.out) hb);replace ah := aK (Kd.R_below (rM ah.out) hb);replace ak := aK (Kd.R_below (rM ak.out) hb);replace an := aK (Kd.R_below (rM an.out) hb);replace al := aK (Kd.R_below (rM al.out) hb);replace ar := aK (Kd.N_elder' (nM ar.out) (Kd.N_base b5) hb);have aU := aK (Kd.N_lower b5 (below_size (bM HB.out)));replace HB := aK (below_step (bM HB.out) hb);clear hb b5;obtain ⟨cE,cF,ey⟩ := Kd.N_slice aU.out;subst ey)|((with_reducible refine gate_callee (f := 21) rfl ?_);refine gL 56 Tryd.func21 #[.slice cE b2.length cF] ?_;(with_reducible refine (manifest_Right.calls k _ _ b2 aV _ ?ai ?aj fi.out).mono ?_);(case ai => exact cM (Kd.N_reads' aU.out).2.2);(case aj => exact (Kd.N_reads' aU.out).2.1);rintro e fG ⟨rfl,hb⟩;refine ⟨_,rfl,?_⟩;replace ab := aK (Kd.N_below (nM ab.out) hb);replace ac := aK (Kd.R_below (rM ac.out) hb);replace ad := aK (Kd.R_below (rM ad.out) hb);replace ae := aK (Kd.R_below (rM ae.out) hb);replace ag := aK (Kd.R_below (rM ag.out) hb);replace ah := aK (Kd.R_below (rM ah.out) hb);replace ak := aK (Kd.R_below (rM ak.out) hb);replace an := aK (Kd.R_below (rM an.out) hb);replace al := aK (Kd.R_below (rM al.out) hb);replace ar := aK (Kd.N_below (nM ar.out) hb);replace aU := aK (Kd.N_below (nM aU.out) hb);replace HB := aK (below_step (bM HB.out) hb);(try clear hb);(try clear hk))|((with_reducible refine gate_dst (N := 58) rfl ?_);(try (refine gate_guard (by rfl) ?_;dsimp only));refine Kd.N_lit k37 _ 37 ?hg (N' := 58) ?hd (xs := ([(⟨1,2,0,([] : List Int),([] : List Int),([] : List ByteArray)⟩ : S37)] : List (S37))) (inner := [.int .i64 1,.int .i64 2,.int .i64 0,.slice none 0 0,.slice none 0 0,.slice none 0 0]) (ok := (fun k_ => some k_ ≠ (.slice (some am) aa.length aq : Value).ownBlock ∧ some k_ ≠ (.slice aA av.length aB : Value).ownBlock ∧ some k_ ≠ (.slice aC aw.length aD : Value).ownBlock ∧ some k_ ≠ (.slice aE au.length aF : Value).ownBlock ∧ some k_ ≠ (.slice aG ax.length aH : Value).ownBlock ∧ some k_ ≠ (.slice aI ao.length aJ : Value).ownBlock ∧ some k_ ≠ (.slice aL ay.length aM : Value).ownBlock ∧ some k_ ≠ (.slice aN ap.length aO : Value).ownBlock ∧ some k_ ≠ (aP : Value).ownBlock ∧ some k_ ≠ (.slice a0 aW.length a1 : Value).ownBlock ∧ some k_ ≠ (.slice cE b2.length cF : Value).ownBlock)) (okp := (fun k_ => some k_ ≠ (.slice (some am) aa.length aq : Value).ownBlock ∧ some k_ ≠ (.slice aA av.length aB : Value).ownBlock ∧ some k_ ≠ (.slice aC aw.length aD : Value).ownBlock ∧ some k_ ≠ (.slice aE au.length aF : Value).ownBlock ∧ some k_ ≠ (.slice aG ax.length aH : Value).ownBlock ∧ some k_ ≠ (.slice aI ao.length aJ : Value).ownBlock ∧ some k_ ≠ (.slice aL ay.length aM : Value).ownBlock ∧ some k_ ≠ (.slice aN ap.length aO : Value).ownBlock ∧ some k_ ≠ (aP : Value).ownBlock ∧ some k_ ≠ (.slice a0 aW.length a1 : Value).ownBlock ∧ some k_ ≠ (.slice cE b2.length cF : Value).ownBlock)) ?hr ?hp (fun _ hk => hk) ((show ∀ k_,fG.heap.size ≤ k_ → (fun k_ => some k_ ≠ (.slice (some am) aa.length aq : Value).ownBlock ∧ some k_ ≠ (.slice aA av.length aB : Value).ownBlock ∧ some k_ ≠ (.slice aC aw.length aD : Value).ownBlock ∧ some k_ ≠ (.slice aE au.length aF : Value).ownBlock ∧ some k_ ≠ (.slice aG ax.length aH : Value).ownBlock ∧ some k_ ≠ (.slice aI ao.length aJ : Value).ownBlock ∧ some k_ ≠ (.slice aL ay.length aM : Value).ownBlock ∧ some k_ ≠ (.slice aN ap.length aO : Value).ownBlock ∧ some k_ ≠ (aP : Value).ownBlock ∧ some k_ ≠ (.slice a0 aW.length a1 : Value).ownBlock ∧ some k_ ≠ (.slice cE b2.length cF : Value).ownBlock) k_ from fun k_ hk => ⟨Kd.fresh' (Kd.N_lt (nM ab.out)) k_ hk,Kd.fresh' (Kd.R_lt (rM ac.out)) k_ hk,Kd.fresh' (Kd.R_lt (rM ad.out)) k_ hk,Kd.fresh' (Kd.R_lt (rM ae.out)) k_ hk,Kd.fresh' (Kd.R_lt (rM ag.out)) k_ hk,Kd.fresh' (Kd.R_lt (rM ah.out)) k_ hk,Kd.fresh' (Kd.R_lt (rM ak.out)) k_ hk,Kd.fresh' (Kd.R_lt (rM an.out)) k_ hk,Kd.fresh' (Kd.R_lt (rM al.out)) k_ hk,Kd.fresh' (Kd.N_lt (nM ar.out)) k_ hk,Kd.fresh' (Kd.N_lt (nM aU.out)) k_ hk⟩) _ (Nat.le_refl _)) (Below.refl _ _) (Nat.le_refl _) (by simp) ?_;(case hd => rfl);(case hg => rfl);(case hr => first|(go_simp;done)|(go_simp;rfl));(case hp => exact (Reps.c6 (show Kd.FK k37 _ _ (⟨1,2,0,([] : List Int),([] : List Int),([] : List ByteArray)⟩ : S37) [.int .i64 1,.int .i64 2,.int .i64 0,.slice none 0 0,.slice none 0 0,.slice none 0 0] from (k37_mkF _ _ (⟨1,2,0,([] : List Int),([] : List Int),([] : List ByteArray)⟩ : S37) (Nat.le_refl _) (Kd.F_nil _ _ _) (Nat.le_refl _) (Kd.F_nil _ _ _) (Nat.le_refl _) (Kd.F_nil _ _ _))) (Reps.none _ _)));intro fH f7 b0 hb hg_ hnew_;clear hg_ hnew_;(first|rw [← cW.out] at b0|(simp only [Int.reduceToNat] at b0;rw [← cW.out] at b0));replace ab := aK (Kd.N_elder' (nM ab.out) (Kd.N_base b0) hb);replace ac := aK (Kd.R_below (rM ac.out) hb);replace ad := aK (Kd.R_below (rM ad.out) hb);replace ae := aK (Kd.R_below (rM ae.out) hb);replace ag := aK (Kd.R_below (rM ag.out) hb);replace ah := aK (Kd.R_below (rM ah.out) hb);replace ak := aK (Kd.R_below (rM ak.out) hb);replace an := aK (Kd.R_below (rM an.out) hb);replace al := aK (Kd.R_below (rM al.out) hb);replace ar := aK (Kd.N_elder' (nM ar.out) (Kd.N_base b0) hb);replace aU := aK (Kd.N_elder' (nM aU.out) (Kd.N_base b0) hb);have a5 := aK (Kd.N_lower b0 (below_size (bM HB.out)));replace HB := aK (below_step (bM HB.out) hb);clear hb b0;obtain ⟨dI,dJ,ez⟩ := Kd.N_slice a5.out;subst ez)|((with_reducible refine gate_callee (f := 21) rfl ?_);refine gL 59 Tryd.func21 #[.slice dI cI.length dJ] ?_;(with_reducible refine (manifest_Right.calls k _ _ cI aS _ ?ai ?aj fj.out).mono ?_);(case ai => exact cM (Kd.N_reads' a5.out).2.2);(case aj => exact (Kd.N_reads' a5.out).2.1);rintro e f8 ⟨rfl,hb⟩;refine ⟨_,rfl,?_⟩;replace ab := aK (Kd.N_below (nM ab.out) hb);replace ac := aK (Kd.R_below (rM ac.out) hb);replace ad := aK (Kd.R_below (rM ad.out) hb);replace ae := aK (Kd.R_below (rM ae.out) hb);replace ag := aK (Kd.R_below (rM ag.out) hb);replace ah := aK (Kd.R_below (rM ah.out) hb);replace ak := aK (Kd.R_below (rM ak.out) hb);replace an := aK (Kd.R_below (rM an.out) hb);replace al := aK (Kd.R_below (rM al.out) hb);replace ar := aK (Kd.N_below (nM ar.out) hb);replace aU := aK (Kd.N_below (nM aU.out) hb);replace a5 := aK (Kd.N_below (nM a5.out) hb);replace HB := aK (below_step (bM HB.out) hb);(try clear hb);(try clear hk))|((with_reducible refine gate_callee (f := 15) rfl ?_);refine gL 62 Tryd.func15 #[.slice (some am) aa.length aq] ?_;(with_reducible refine (manifest_Write.calls k _ _ aa aQ _ ?ai ?aj fk.out).mono ?_);(case ai => exact cM (Kd.N_reads' ab.out).2.2);(case aj => exact (Kd.N_reads' ab.out).2.1);rintro e f9 ⟨fI,rfl,az,hb⟩;refine ⟨_,rfl,?_⟩;replace ab := aK (Kd.N_elder' (nM ab.out) (Kd.R_base az) hb);replace ac := aK (Kd.R_below (rM ac.out) hb);replace ad := aK (Kd.R_below (rM ad.out) hb);replace ae := aK (Kd.R_below (rM ae.out) hb);replace ag := aK (Kd.R_below (rM ag.out) hb);replace ah := aK (Kd.R_below (rM ah.out) hb);replace ak := aK (Kd.R_below (rM ak.out) hb);replace an := aK (Kd.R_below (rM an.out) hb);replace ar := aK (Kd.N_elder' (nM ar.out) (Kd.R_base az) hb);replace aU := aK (Kd.N_elder' (nM aU.out) (Kd.R_base az) hb);replace a5 := aK (Kd.N_elder' (nM a5.out) (Kd.R_base az) hb);have a4 := aK (Kd.R_lower (Kd.R_new' az (Kd.R_lt (rM al.out))) (below_size (bM HB.out)));replace al := aK (Kd.R_elder' (rM al.out) (Kd.R_base az) hb);replace HB := aK (below_step (bM HB.out) hb);(try clear hb);(try clear hk);(try clear az);obtain ⟨dK,dL,eA⟩ := Kd.R_slice a4.out;subst eA)|((with_reducible refine gate_callee (f := 16) rfl ?_);refine gL 63 Tryd.func16 #[.slice dK aQ.length dL] ?_;(with_reducible refine (manifest_Recover.calls k _ _ aQ c1 da _ ?ai ?aj fl.out).mono ?_);(case ai => exact cM (Kd.R_reads' a4.out).2.2);(case aj => exact (Kd.R_reads' a4.out).2.1);rintro e ga ⟨fJ,rfl,az,hb⟩;refine ⟨_,rfl,?_⟩;have cG := aK (Kd.N_lower (Kd.N_mono (ok' := fun k_ => some k_ ≠ (.slice (some am) aa.length aq : Value).ownBlock ∧ some k_ ≠ (.slice aA av.length aB : Value).ownBlock ∧ some k_ ≠ (.slice aC aw.length aD : Value).ownBlock ∧ some k_ ≠ (.slice aE au.length aF : Value).ownBlock ∧ some k_ ≠ (.slice aG ax.length aH : Value).ownBlock ∧ some k_ ≠ (.slice aI ao.length aJ : Value).ownBlock ∧ some k_ ≠ (.slice aL ay.length aM : Value).ownBlock ∧ some k_ ≠ (.slice aN ap.length aO : Value).ownBlock ∧ some k_ ≠ (aP : Value).ownBlock ∧ some k_ ≠ (.slice a0 aW.length a1 : Value).ownBlock ∧ some k_ ≠ (.slice cE b2.length cF : Value).ownBlock ∧ some k_ ≠ (.slice dI cI.length dJ : Value).ownBlock ∧ some k_ ≠ (.slice dK aQ.length dL : Value).ownBlock) (Kd.S_N (Kd.S_bound az)) (fun k_ hk_ => ⟨(Kd.fresh' (Kd.N_lt (nM ab.out)) k_ hk_.2.1),(Kd.fresh' (Kd.R_lt (rM ac.out)) k_ hk_.2.1),(Kd.fresh' (Kd.R_lt (rM ad.out)) k_ hk_.2.1),(Kd.fresh' (Kd.R_lt (rM ae.out)) k_ hk_.2.1),(Kd.fresh' (Kd.R_lt (rM ag.out)) k_ hk_.2.1),(Kd.fresh' (Kd.R_lt (rM ah.out)) k_ hk_.2.1),(Kd.fresh' (Kd.R_lt (rM ak.out)) k_ hk_.2.1),(Kd.fresh' (Kd.R_lt (rM an.out)) k_ hk_.2.1),(Kd.fresh' (Kd.R_lt (rM al.out)) k_ hk_.2.1),(Kd.fresh' (Kd.N_lt (nM ar.out)) k_ hk_.2.1),(Kd.fresh' (Kd.N_lt (nM aU.out)) k_ hk_.2.1),(Kd.fresh' (Kd.N_lt (nM a5.out)) k_ hk_.2.1),(Kd.fresh' (Kd.R_lt (rM a4.out)) k_ hk_.2.1)⟩)) (below_size (bM HB.out)));replace ab := aK (Kd.N_elder' (nM ab.out) (Kd.N_base (Kd.S_N (Kd.S_bound az))) hb);replace al := aK (Kd.R_below (rM al.out) hb);replace a4 := aK (Kd.R_below (rM a4.out) hb);replace HB := aK (below_step (bM HB.out) hb);(try clear hb);(try clear hk);(try clear az);obtain ⟨fK,fL,eB⟩ := Kd.N_slice cG.out;subst eB)|(go_at_call 17;(with_reducible refine (r33_SameAll.calls k _ _ c1 _ _ aa true _ ?ai ?aj ?a2 ?a3 fm.out).mono ?_);(case ai => exact cM (Kd.N_reads' cG.out).2.2);(case aj => exact (Kd.N_reads' cG.out).2.1);(case a2 => exact cM (Kd.N_reads' ab.out).2.2);(case a3 => exact (Kd.N_reads' ab.out).2.1);rintro e gb ⟨rfl,hb⟩;replace ab := aK (Kd.N_below (nM ab.out) hb);replace al := aK (Kd.R_below (rM al.out) hb);replace a4 := aK (Kd.R_below (rM a4.out) hb);replace HB := aK (below_step (bM HB.out) hb);(try clear hb);(try clear hk))|(go_at_call 15;(with_reducible refine (manifest_Write.calls k _ _ aa aR _ ?ai ?aj fo.out).mono ?_);(case ai => exact cM (Kd.N_reads' ab.out).2.2);(case aj => exact (Kd.N_reads' ab.out).2.1);rintro e gc ⟨fM,rfl,az,hb⟩;have dM := aK (Kd.R_lower (Kd.R_new' (Kd.R_new' az (Kd.R_lt (rM al.out))) (Kd.R_lt (rM a4.out))) (below_size (bM HB.out)));replace HB := aK (below_step (bM HB.out) hb);(try clear hb);(try clear hk);(try clear az);obtain ⟨fN,fO,eC⟩ := Kd.R_slice dM.out;subst eC))
  go_ret
  exact ⟨by first|rfl|(simp [errW_none,errW_some] <;> rfl)|(simp [*,errW_none,errW_some] <;> rfl),bM HB.out⟩
 ·rw [if_neg c3] at H
  exact absurd H (by simp)

/-! ### l33_rising: function 26 -/
def l33_rising.l0 : Nat → List Int → Int → Option (Bool)
|0,_,_ => none
|k + 1,x0,x3 => if x3 < (x0.length : Int) then (if 0 ≤ x3 then (if (rd x0 x3) < 0 then (some false) else (if (rd x0 x3) > 4611686018427387904 then (some false) else (if x3 > 0 then (if 0 ≤ (wrap64 (x3 - 1)) then (if (wrap64 (x3 - 1)) < (x0.length : Int) then (if (rd x0 x3) ≤ (rd x0 (wrap64 (x3 - 1))) then (some false) else (l33_rising.l0 k x0 (wrap64 (x3 + 1)))) else (none)) else (none)) else (l33_rising.l0 k x0 (wrap64 (x3 + 1)))))) else (none)) else (some true)
def l33_rising.f (k : Nat) (l0 : List Int) : Option (Bool) := l33_rising.l0 k l0 0
theorem l33_rising.mono_l : ∀ k, (∀ y0 y1, LeO (l33_rising.l0 k y0 y1) (l33_rising.l0 (k + 1) y0 y1))
|0 => fun _ _ r h => by simp [l33_rising.l0] at h
|k + 1 => by
  have ih0 := l33_rising.mono_l k
  ·intro y0 y1
   unfold l33_rising.l0
   repeat' (with_reducible first|exact ih0 _ _|exact LeO.refl _|exact LeO.none _|refine LeO.ite ?_ ?_|refine LeO.bind ?_ (fun _ => ?_))
theorem l33_rising.mono : ∀ a0 k, LeO (l33_rising.f k a0) (l33_rising.f (k + 1) a0) := by
 intro a0 k
 have ih0 := l33_rising.mono_l k
 unfold l33_rising.f
 repeat' first
  |(with_reducible exact ih0 _ _)
  |(with_reducible exact LeO.refl _)
  |(with_reducible exact LeO.none _)
  |(with_reducible refine LeO.ite ?_ ?_)
  |(with_reducible refine LeO.bind ?_ (fun _ => ?_))
  |exact ih0 _ _
  |exact LeO.none _
  |refine LeO.ite ?_ ?_
  |refine LeO.bind ?_ (fun _ => ?_)
theorem l33_rising.calls (k : Nat) (A0 : Option Addr) (c0 : Nat) (l0 : List Int) (r : Bool) (w : World) (aG : Kd.C (Kd.int .i64) w A0 l0.length l0) (aH : l0.length ≤ c0) (h : l33_rising.f k l0 = some r) :
  Calls Tryd.prog 26 #[.slice A0 l0.length c0] w fun e w' => e = .returned (.bool r) ∧ Drawn0 w w' := by
 have ap := aK aG
 have aN := aK aH
 clear aG aH
 have H : (l33_rising.l0 k l0 0) = some r := h
 clear h
 have H' := aK H
 clear H
 go_enter Tryd.func26,Tryd.ntmps26
 go_wp2
 repeat (go_quiet (fail);try go_wp2)
 go_loopg [3] k (fun kq v3 w' => ∃ (aa : Int),v3 = .int .i64 aa ∧ Aside0 (l33_rising.l0 kq l0 aa = some r) ∧ Aside0 (kq ≤ k) ∧ Drawn0 w w')
 case atStart => exact ⟨(0),(by first|rfl|(simp;done)|(simp [*];done)),H',⟨Nat.le_refl _⟩,by repeat (first|exact Drawn0.refl _|apply Drawn0.step)⟩
 case round =>
  clear H'
  obtain ⟨aa,rfl,HA,aB,⟨m1,rfl⟩⟩ := hrel
  cases gk with
 |zero => exact absurd HA.out (by simp [l33_rising.l0])
 |succ k1 =>
   have H := HA.out
   clear HA
   simp only [l33_rising.l0] at H
   by_cases c2 : aa < (l0.length : Int)
   ·rw [if_pos c2] at H
    have aC := decide_eq_true c2
    clear c2
    obtain ⟨c3,H⟩ := iS H
    have aJ := decide_eq_true c3
    clear c3
    by_cases c4 : (rd l0 aa) < 0
    ·rw [if_pos c4] at H
     have aD := decide_eq_true c4
     clear c4
     obtain rfl := Option.some.inj H
     have ab : 0 ≤ (aa : Int) := dA
     have ac : aa < (l0.length : Int) := dA
     obtain ⟨ad,ai,ag⟩ := Kd.at_int ap.out aa ab ac
     cases ai
     replace ab := eq_true ab
     replace ac := eq_true ac
     go_wp2
     repeat (go_quiet (fail);try go_wp2)
     go_ret
     exact ⟨by first|rfl|(simp;done)|(simp [*];done),by repeat (first|exact Drawn0.refl _|apply Drawn0.step)⟩
    ·rw [if_neg c4] at H
     have aD := decide_eq_false c4
     clear c4
     by_cases c5 : (rd l0 aa) > 4611686018427387904
     ·rw [if_pos c5] at H
      have aE := decide_eq_true c5
      clear c5
      obtain rfl := Option.some.inj H
      have ab : 0 ≤ (aa : Int) := dA
      have ac : aa < (l0.length : Int) := dA
      obtain ⟨ad,ai,ag⟩ := Kd.at_int ap.out aa ab ac
      cases ai
      replace ab := eq_true ab
      replace ac := eq_true ac
      have ae : 0 ≤ (aa : Int) := dA
      have af : aa < (l0.length : Int) := dA
      obtain ⟨ah,ak,aj⟩ := Kd.at_int ap.out aa ae af
      obtain rfl : ad = ah := (by injection ak)
      replace ae := eq_true ae
      replace af := eq_true af
      go_wp2
      repeat (go_quiet (fail);try go_wp2)
      go_ret
      exact ⟨by first|rfl|(simp;done)|(simp [*];done),by repeat (first|exact Drawn0.refl _|apply Drawn0.step)⟩
     ·rw [if_neg c5] at H
      have aE := decide_eq_false c5
      clear c5
      by_cases c6 : aa > 0
      ·rw [if_pos c6] at H
       have aF := decide_eq_true c6
       clear c6
       obtain ⟨aq,av⟩ : ∃ j_ : Int,(wrap64 (aa - 1)) = j_ := ⟨_,rfl⟩
       replace H : (if 0 ≤ (aq) then (if (aq) < (l0.length : Int) then (if (rd l0 aa) ≤ (rd l0 (aq)) then (some false) else (l33_rising.l0 k1 l0 (wrap64 (aa + 1)))) else (none)) else (none)) = some r := by first|(rw [av] at H;exact H)|(simp only [av] at H ⊢;exact H)
       have aI : (IntKind.i64.wrap (aa - 1)) = aq := (i64_w _).trans av
       obtain ⟨c8,H⟩ := iS H
       have aL := decide_eq_true c8
       clear c8
       obtain ⟨c9,H⟩ := iS H
       have aM := decide_eq_true c9
       clear c9
       by_cases c10 : (rd l0 aa) ≤ (rd l0 (aq))
       ·rw [if_pos c10] at H
        have aA := decide_eq_true c10
        clear c10
        obtain rfl := Option.some.inj H
        have ab : 0 ≤ (aa : Int) := dA
        have ac : aa < (l0.length : Int) := dA
        obtain ⟨ad,ai,ag⟩ := Kd.at_int ap.out aa ab ac
        cases ai
        replace ab := eq_true ab
        replace ac := eq_true ac
        have ae : 0 ≤ (aa : Int) := dA
        have af : aa < (l0.length : Int) := dA
        obtain ⟨ah,ak,aj⟩ := Kd.at_int ap.out aa ae af
        obtain rfl : ad = ah := (by injection ak)
        replace ae := eq_true ae
        replace af := eq_true af
        have al : 0 ≤ (aa : Int) := dA
        have am : aa < (l0.length : Int) := dA
        obtain ⟨ar,ay,aw⟩ := Kd.at_int ap.out aa al am
        obtain rfl : ad = ar := (by injection ay)
        replace al := eq_true al
        replace am := eq_true am
        have an : 0 ≤ ((aq) : Int) := dA
        have ao : (aq) < (l0.length : Int) := dA
        obtain ⟨au,az,ax⟩ := Kd.at_int ap.out (aq) an ao
        obtain rfl : ad = au := (by injection az)
        replace an := eq_true an
        replace ao := eq_true ao
        go_wp2
        repeat (go_quiet (fail);try go_wp2)
        go_ret
        exact ⟨by first|rfl|(simp;done)|(rw [Int.tdiv_eq_ediv_of_nonneg (by assumption)];done)|(rw [Int.tmod_eq_emod_of_nonneg (by assumption)];done)|(simp only [← av] <;> (first|rfl|simp))|(simp [*];done),by repeat (first|exact Drawn0.refl _|apply Drawn0.step)⟩
       ·rw [if_neg c10] at H
        have aA := decide_eq_false c10
        clear c10
        have H' := aK H
        clear H
        have ab : 0 ≤ (aa : Int) := dA
        have ac : aa < (l0.length : Int) := dA
        obtain ⟨ad,ai,ag⟩ := Kd.at_int ap.out aa ab ac
        cases ai
        replace ab := eq_true ab
        replace ac := eq_true ac
        have ae : 0 ≤ (aa : Int) := dA
        have af : aa < (l0.length : Int) := dA
        obtain ⟨ah,ak,aj⟩ := Kd.at_int ap.out aa ae af
        obtain rfl : ad = ah := (by injection ak)
        replace ae := eq_true ae
        replace af := eq_true af
        have al : 0 ≤ (aa : Int) := dA
        have am : aa < (l0.length : Int) := dA
        obtain ⟨ar,ay,aw⟩ := Kd.at_int ap.out aa al am
        obtain rfl : ad = ar := (by injection ay)
        replace al := eq_true al
        replace am := eq_true am
        have an : 0 ≤ ((aq) : Int) := dA
        have ao : (aq) < (l0.length : Int) := dA
        obtain ⟨au,az,ax⟩ := Kd.at_int ap.out (aq) an ao
        obtain rfl : ad = au := (by injection az)
        replace an := eq_true an
        replace ao := eq_true ao
        go_wp2
        repeat (go_quiet (fail);try go_wp2)
        go_roundg k1
        case measure => have := aB.out;omega
        case rel => exact ⟨(wrap64 (aa + 1)),(by first|rfl|(simp;done)|(simp [*];done)),H',⟨by have := aB.out;omega⟩,by repeat (first|exact Drawn0.refl _|apply Drawn0.step)⟩
      ·rw [if_neg c6] at H
       have aF := decide_eq_false c6
       clear c6
       have H' := aK H
       clear H
       have ab : 0 ≤ (aa : Int) := dA
       have ac : aa < (l0.length : Int) := dA
       obtain ⟨ad,ai,ag⟩ := Kd.at_int ap.out aa ab ac
       cases ai
       replace ab := eq_true ab
       replace ac := eq_true ac
       have ae : 0 ≤ (aa : Int) := dA
       have af : aa < (l0.length : Int) := dA
       obtain ⟨ah,ak,aj⟩ := Kd.at_int ap.out aa ae af
       obtain rfl : ad = ah := (by injection ak)
       replace ae := eq_true ae
       replace af := eq_true af
       go_wp2
       repeat (go_quiet (fail);try go_wp2)
       go_roundg k1
       case measure => have := aB.out;omega
       case rel => exact ⟨(wrap64 (aa + 1)),(by first|rfl|(simp;done)|(simp [*];done)),H',⟨by have := aB.out;omega⟩,by repeat (first|exact Drawn0.refl _|apply Drawn0.step)⟩
   ·rw [if_neg c2] at H
    have aC := decide_eq_false c2
    clear c2
    obtain rfl := Option.some.inj H
    go_wp2
    repeat (go_quiet (fail);try go_wp2)
    go_ret
    exact ⟨by first|rfl|(simp;done)|(simp [*];done),by repeat (first|exact Drawn0.refl _|apply Drawn0.step)⟩
end Go.Proofs.YtmgliocboeifdaaDoor.K
