-- Written by hp.py, a program of this session, over the kit's print of the translation. Not trusted: Lean checks it.
import Derived.Test.YtmgliocboeifdaaDoorTx0
import Derived.Test.YtmgliocboeifdaaDoorTx2
import Derived.Test.YtmgliocboeifdaaDoorTx3
import Derived.Test.YtmgliocboeifdaaDoorTx4
import Derived.Test.YtmgliocboeifdaaDoorTx5
import Derived.Test.YtmgliocboeifdaaDoorTx6
import Derived.Test.YtmgliocboeifdaaDoorTx7
import Derived.Test.YtmgliocboeifdaaDoorTx9
import Derived.Test.YtmgliocboeifdaaDoorTx14
namespace Go.Proofs.YtmgliocboeifdaaDoor.T
open Go.RowKit Go.Proofs.YtmgliocboeifdaaDoorW.PrintWords Go.Proofs.YtmgliocboeifdaaDoorW.PrintLast Go.Proofs.YtmgliocboeifdaaDoorW.PrintMore
attribute [local go_sem] max2_int min2_int max_two min_two max_three min_three max_four min_four   -- for this text's walks alone
set_option linter.unusedVariables false
set_option linter.unusedSimpArgs false

/-! ### manifest_Right: function 21 -/
def manifest_Right.l0 : Nat → List (S37) → Int → Int → List Int → List Int → Int → Option (Int)
|0,_,_,_,_,_,_ => none
|k + 1,x8,x9,x10,x356000,x356001,x356002 => if x10 < x9 then (if 0 ≤ x10 then (if x10 < (x8.length : Int) then ((manifest_check.f k x356000 x356001 x356002 x10 ((rd_T37 x8 x10).f0) ((rd_T37 x8 x10).f1) ((rd_T37 x8 x10).f2) ((rd_T37 x8 x10).f3) ((rd_T37 x8 x10).f4) ((rd_T37 x8 x10).f5)).bind fun t358 => (if t358 = 0 then ((manifest_state_after.f k x356000 x356001 x356002 ((rd_T37 x8 x10).f0) ((rd_T37 x8 x10).f1) ((rd_T37 x8 x10).f2) ((rd_T37 x8 x10).f3) ((rd_T37 x8 x10).f4) ((rd_T37 x8 x10).f5)).bind fun bt359 => (manifest_Right.l0 k x8 x9 (wrap64 (x10 + 1)) bt359.1 bt359.2.1 bt359.2.2)) else (some t358))) else (none)) else (none)) else (some 0)
def manifest_Right.f (k : Nat) (l0 : List (S37)) : Option (Int) := manifest_Right.l0 k l0 (l0.length : Int) 0 ([] : List Int) ([] : List Int) 0
theorem manifest_Right.mono_l : ∀ k, (∀ y0 y1 y2 y3 y4 y5, LeO (manifest_Right.l0 k y0 y1 y2 y3 y4 y5) (manifest_Right.l0 (k + 1) y0 y1 y2 y3 y4 y5))
|0 => fun _ _ _ _ _ _ r h => by simp [manifest_Right.l0] at h
|k + 1 => by
  have ih0 := manifest_Right.mono_l k
  ·intro y0 y1 y2 y3 y4 y5
   unfold manifest_Right.l0
   repeat' (with_reducible first|exact ih0 _ _ _ _ _ _|exact manifest_check.mono _ _ _ _ _ _ _ _ _ _ _|exact manifest_state_after.mono _ _ _ _ _ _ _ _ _ _|exact LeO.refl _|exact LeO.none _|refine LeO.ite ?_ ?_|refine LeO.bind ?_ (fun _ => ?_))
theorem manifest_Right.mono : ∀ a0 k, LeO (manifest_Right.f k a0) (manifest_Right.f (k + 1) a0) := by
 intro a0 k
 have ih0 := manifest_Right.mono_l k
 unfold manifest_Right.f
 repeat' first
  |(with_reducible exact ih0 _ _ _ _ _ _)
  |(with_reducible exact manifest_check.mono _ _ _ _ _ _ _ _ _ _ _)
  |(with_reducible exact manifest_state_after.mono _ _ _ _ _ _ _ _ _ _)
  |(with_reducible exact LeO.refl _)
  |(with_reducible exact LeO.none _)
  |(with_reducible refine LeO.ite ?_ ?_)
  |(with_reducible refine LeO.bind ?_ (fun _ => ?_))
  |exact ih0 _ _ _ _ _ _
  |exact manifest_check.mono _ _ _ _ _ _ _ _ _ _ _
  |exact manifest_state_after.mono _ _ _ _ _ _ _ _ _ _
  |exact LeO.none _
  |refine LeO.ite ?_ ?_
  |refine LeO.bind ?_ (fun _ => ?_)
set_option maxHeartbeats 4000000 in
set_option maxRecDepth 100000 in
theorem manifest_Right.calls (k : Nat) (A0 : Option Addr) (c0 : Nat) (l0 : List (S37)) (r : Int) (w : World) (hr0 : Kd.C k37 w A0 l0.length l0) (hc0 : l0.length ≤ c0) (h : manifest_Right.f k l0 = some r) :
  Calls Tryd.prog 21 #[.slice A0 l0.length c0] w fun e w' => e = .returned (.int .i64 r) ∧ Below w.heap.size w w' := by
 have hu48 := Tryd.underlying48
 have hu37 := Tryd.underlying37
 have HR0 := aK hr0
 have HC0 := aK hc0
 clear hr0 hc0
 have HB := aK (Below.refl w.heap.size w)
 have H : (manifest_Right.l0 k l0 (l0.length : Int) 0 ([] : List Int) ([] : List Int) 0) = some r := h
 clear h
 have H' := aK H
 clear H
 go_enter Tryd.func21,Tryd.ntmps21
 go_wp2_with (first|((with_reducible refine gate_dst (N := 3) rfl ?_);refine box_event ?hg (N := 3) ?hd (cs := #[.slice none 0 0,.slice none 0 0,.int .i64 0]) (t := 48) ?hr ?_;(case hd => rfl);(case hg => rfl);(case hr => first|(go_simp;done)|(go_simp;rfl));intro gb355 hg w2 hbox hb;have BK355 := aK (hbox);have GW355 := aK ((by rw [hg];exact (below_size (bM HB.out)) : w.heap.size ≤ gb355));have GJ355 := Ge.mk GW355.out;have GE355 := aK ((by rw [hg];exact (below_size (bM HB.out)) : w.heap.size ≤ gb355));have GI355 := Ge.mk GE355.out;replace HB := aK (below_step (bM HB.out) hb);clear hb hbox hg;obtain ⟨hcz3_0,hcz3_1,hcz3_2,hfz3_0,hfz3_1,hfz3_2⟩ := bk3_ BK355.out))
 go_loopg [10] k (fun kq v10 w' => ∃ (x10_1 : Int) (x356000_1 : List Int) (x356001_1 : List Int) (x356002_1 : Int) (u356000 : Value) (u356001 : Value),v10 = .int .i64 x10_1 ∧ Aside0 (manifest_Right.l0 kq l0 (l0.length : Int) x10_1 x356000_1 x356001_1 x356002_1 = some r) ∧ Aside0 (kq ≤ k) ∧ Aside0 (Kd.R (Kd.int .i64) 3 w' w.heap.size (fun k_ => some k_ ≠ (u356001 : Value).ownBlock) u356000 x356000_1) ∧ Aside0 (Kd.R (Kd.int .i64) 3 w' w.heap.size (fun k_ => some k_ ≠ (u356000 : Value).ownBlock) u356001 x356001_1) ∧ Aside0 (w'.heap[gb355]? = some (.cells #[u356000,u356001,.int .i64 x356002_1] 48 (0,0))) ∧ Aside0 (Below w.heap.size w w'))
 case atStart => exact ⟨(0),(([] : List Int)),(([] : List Int)),(0),(.slice none 0 0),(.slice none 0 0),(by first|rfl|(simp;done)|(simp [*];done)),H',⟨Nat.le_refl _⟩,⟨by first|exact Kd.R_nil _ _ _ _ _|exact Kd.N_nil _ _ _ _ _|exact Kd.V_nil _ _ _ _ _|exact Kd.Q_nil _ _ _ _ _|exact Kd.S_nil _ _ _ _ _⟩,⟨by first|exact Kd.R_nil _ _ _ _ _|exact Kd.N_nil _ _ _ _ _|exact Kd.V_nil _ _ _ _ _|exact Kd.Q_nil _ _ _ _ _|exact Kd.S_nil _ _ _ _ _⟩,⟨by (with_reducible repeat (first|refine blk_drewN ?_ _|refine blk_drew ?_|refine blk_alloc ?_ _));refine blk_put (cs := #[.slice none 0 0,.slice none 0 0,.int .i64 0]) ?_ 2 _ rfl;(with_reducible repeat (first|refine blk_drewN ?_ _|refine blk_drew ?_|refine blk_alloc ?_ _));refine blk_put (cs := #[.slice none 0 0,.slice none 0 0,.int .i64 0]) ?_ 1 _ rfl;(with_reducible repeat (first|refine blk_drewN ?_ _|refine blk_drew ?_|refine blk_alloc ?_ _));refine blk_put (cs := #[.slice none 0 0,.slice none 0 0,.int .i64 0]) ?_ 0 _ rfl;(with_reducible repeat (first|refine blk_drewN ?_ _|refine blk_drew ?_|refine blk_alloc ?_ _));exact BK355.out⟩,⟨bG HB.out⟩⟩
 case round =>
  clear H'
  try clear p2
  try clear hcz3_0
  try clear hcz3_1
  try clear hcz3_2
  try clear hfz3_0
  try clear hfz3_1
  try clear hfz3_2
  obtain ⟨x10_1,x356000_1,x356001_1,x356002_1,u356000,u356001,rfl,HA,HK1,HO_356000,HO_356001,BK355,HB⟩ := hrel
  cases gk with
 |zero => exact absurd HA.out (by simp [manifest_Right.l0])
 |succ k1 =>
   have H := HA.out
   clear HA
   simp only [manifest_Right.l0] at H
   by_cases c4 : x10_1 < (l0.length : Int)
   ·rw [if_pos c4] at H
    have c4b0 := decide_eq_true c4
    clear c4
    obtain ⟨c5,H⟩ := iS H
    have c5b0 := decide_eq_true c5
    clear c5
    obtain ⟨c6,H⟩ := iS H
    have c6b0 := decide_eq_true c6
    clear c6
    replace H := Option.bind_eq_some_iff.mp H
    obtain ⟨t358,A70,H⟩ := H
    have A7 := aK A70
    clear A70
    by_cases c8 : t358 = 0
    ·rw [if_pos c8] at H
     have c8b0 := beq_iff_eq.mpr c8
     have c8b1 := bne_eq_false_iff_eq.mpr c8
     clear c8
     replace H := Option.bind_eq_some_iff.mp H
     obtain ⟨⟨t359,t362,t365⟩,A90,H⟩ := H
     replace H : (manifest_Right.l0 k1 l0 (l0.length : Int) (wrap64 (x10_1 + 1)) t359 t362 t365) = some r := H
     have A9 := aK A90
     clear A90
     have H' := aK H
     clear H
     have p356 : 0 ≤ (x10_1 : Int) := of_decide_eq_true (by assumption)
     have q356 : x10_1 < (l0.length : Int) := of_decide_eq_true (by assumption)
     obtain ⟨ad356,A356_3,c356_3,A356_4,c356_4,A356_5,c356_5,e356,hx356_0,hx356_1,hx356_2,hx356_3,hx356_4,hx356_5,hl356_3,hi356_3,hl356_4,hi356_4,hl356_5,hi356_5⟩ := at_T37 HR0.out x10_1 p356 q356
     cases e356
     replace hx356_0 := xM HB hx356_0
     replace hx356_1 := xM HB hx356_1
     replace hx356_2 := xM HB hx356_2
     replace hx356_3 := xM HB hx356_3
     replace hx356_4 := xM HB hx356_4
     replace hx356_5 := xM HB hx356_5
     have HR356_3 := aK hi356_3
     have HC356_3 := aK hl356_3
     clear hi356_3 hl356_3
     have HR356_4 := aK hi356_4
     have HC356_4 := aK hl356_4
     clear hi356_4 hl356_4
     have HR356_5 := aK hi356_5
     have HC356_5 := aK hl356_5
     clear hi356_5 hl356_5
     replace p356 := eq_true p356
     replace q356 := eq_true q356
     go_wp2_with (first|((with_reducible refine gate_dst (N := 5) rfl ?_);refine box_event ?hg (N := 5) ?hd (cs := #[.int .i64 0,.int .i64 0,.int .i64 0,.slice none 0 0,.slice none 0 0,.slice none 0 0]) (t := 37) ?hr ?_;(case hd => rfl);(case hg => rfl);(case hr => first|(go_simp;done)|(go_simp;rfl));intro gb357 hg w10 hbox hb;replace HO_356000 := aK (Kd.R_below (rM HO_356000.out) hb);replace HO_356001 := aK (Kd.R_below (rM HO_356001.out) hb);have BK357 := aK (hbox);have GW357 := aK ((by rw [hg];exact (below_size (bG HB.out)) : w.heap.size ≤ gb357));have GJ357 := Ge.mk GW357.out;have GE357 := aK ((by rw [hg];exact (below_size (bG HB.out)) : w.heap.size ≤ gb357));have GI357 := Ge.mk GE357.out;replace HB := aK (below_step (bG HB.out) hb);have NB355_357 := aK (nbL BK355.out hg);have NB357_355 := aK (nbR BK355.out hg);replace BK355 := aK (blk_below (kM BK355.out) hb);clear hb hbox hg;have hnb11 := NB357_355.out;have hnc11 := NB355_357.out;obtain ⟨_,_,_,_,_,_,_,_,_,_,_,_⟩ := bk6_ BK357.out;obtain ⟨_,_,_,_,_,_⟩ := bk3_ BK355.out;obtain ⟨Ao14,co14,eo14⟩ := Kd.R_slice HO_356000.out;subst eo14;obtain ⟨Ao15,co15,eo15⟩ := Kd.R_slice HO_356001.out;subst eo15)|((with_reducible refine gate_callee (f := 41) rfl ?_);refine goesL_ (some 18) rfl rfl Tryd.func41 (by kernel_rfl) rfl #[.agg #[.slice Ao14 x356000_1.length co14,.slice Ao15 x356001_1.length co15,.int .i64 x356002_1],.int .i64 x10_1,.agg #[.int .i64 ((rd_T37 l0 x10_1).f0),.int .i64 ((rd_T37 l0 x10_1).f1),.int .i64 ((rd_T37 l0 x10_1).f2),.slice A356_3 ((rd_T37 l0 x10_1).f3).length c356_3,.slice A356_4 ((rd_T37 l0 x10_1).f4).length c356_4,.slice A356_5 ((rd_T37 l0 x10_1).f5).length c356_5]] rfl (by (try simp only [List.map_toArray,List.map_cons,List.map_nil]);first|done|rfl|(simp only [List.length_drop,List.length_take];rfl)) ?_;(with_reducible refine (manifest_check.calls k1 _ _ x356000_1 _ _ x356001_1 x356002_1 x10_1 ((rd_T37 l0 x10_1).f0) ((rd_T37 l0 x10_1).f1) ((rd_T37 l0 x10_1).f2) _ _ ((rd_T37 l0 x10_1).f3) _ _ ((rd_T37 l0 x10_1).f4) _ _ ((rd_T37 l0 x10_1).f5) t358 _ ?side1 ?side2 ?side3 ?side4 ?side5 ?side6 ?side7 ?side8 ?side9 ?side10 A7.out).mono ?_);(case side1 => refine (Kd.R_reads' (e := 3) (base := w.heap.size) (ok := fun k_ => some k_ ≠ (.slice Ao15 x356001_1.length co15 : Value).ownBlock) (n := x356000_1.length) (c := co14) ?_).2.2;exact (by (with_reducible repeat (first|apply Kd.R_alloc|apply Kd.R_drewN|apply Kd.R_drew));exact (Kd.R_mono (Kd.R_far (p := ⟨gb357,5,none⟩) (Kd.R_far (p := ⟨gb357,4,none⟩) (Kd.R_far (p := ⟨gb357,3,none⟩) (Kd.R_far (p := ⟨gb357,2,none⟩) (Kd.R_far (p := ⟨gb357,1,none⟩) (Kd.R_far (p := ⟨gb357,0,none⟩) (Kd.R_types HO_356000.out BK357.out (by decide)) (fun _ hk => hk.2) (.int .i64 ((rd_T37 l0 x10_1).f0))) (fun _ hk => hk.2) (.int .i64 ((rd_T37 l0 x10_1).f1))) (fun _ hk => hk.2) (.int .i64 ((rd_T37 l0 x10_1).f2))) (fun _ hk => hk.2) (.slice A356_3 ((rd_T37 l0 x10_1).f3).length c356_3)) (fun _ hk => hk.2) (.slice A356_4 ((rd_T37 l0 x10_1).f4).length c356_4)) (fun _ hk => hk.2) (.slice A356_5 ((rd_T37 l0 x10_1).f5).length c356_5)) (fun _ h_ => h_.1))));(case side2 => exact (Kd.R_reads' HO_356000.out).2.1);(case side3 => refine (Kd.R_reads' (e := 3) (base := w.heap.size) (ok := fun k_ => some k_ ≠ (.slice Ao14 x356000_1.length co14 : Value).ownBlock) (n := x356001_1.length) (c := co15) ?_).2.2;exact (by (with_reducible repeat (first|apply Kd.R_alloc|apply Kd.R_drewN|apply Kd.R_drew));exact (Kd.R_mono (Kd.R_far (p := ⟨gb357,5,none⟩) (Kd.R_far (p := ⟨gb357,4,none⟩) (Kd.R_far (p := ⟨gb357,3,none⟩) (Kd.R_far (p := ⟨gb357,2,none⟩) (Kd.R_far (p := ⟨gb357,1,none⟩) (Kd.R_far (p := ⟨gb357,0,none⟩) (Kd.R_types HO_356001.out BK357.out (by decide)) (fun _ hk => hk.2) (.int .i64 ((rd_T37 l0 x10_1).f0))) (fun _ hk => hk.2) (.int .i64 ((rd_T37 l0 x10_1).f1))) (fun _ hk => hk.2) (.int .i64 ((rd_T37 l0 x10_1).f2))) (fun _ hk => hk.2) (.slice A356_3 ((rd_T37 l0 x10_1).f3).length c356_3)) (fun _ hk => hk.2) (.slice A356_4 ((rd_T37 l0 x10_1).f4).length c356_4)) (fun _ hk => hk.2) (.slice A356_5 ((rd_T37 l0 x10_1).f5).length c356_5)) (fun _ h_ => h_.1))));(case side4 => exact (Kd.R_reads' HO_356001.out).2.1);(case side5 => exact Kd.C_below HR356_3.out (bG HB.out));(case side6 => exact HC356_3.out);(case side7 => exact Kd.C_below HR356_4.out (bG HB.out));(case side8 => exact HC356_4.out);(case side9 => exact Kd.C_below HR356_5.out (bG HB.out));(case side10 => exact HC356_5.out);rintro e w16 ⟨rfl,hb⟩;refine ⟨_,rfl,?_⟩;replace HO_356000 := aK (Kd.R_below (by (with_reducible repeat (first|apply Kd.R_alloc|apply Kd.R_drewN|apply Kd.R_drew));exact (Kd.R_mono (Kd.R_far (p := ⟨gb357,5,none⟩) (Kd.R_far (p := ⟨gb357,4,none⟩) (Kd.R_far (p := ⟨gb357,3,none⟩) (Kd.R_far (p := ⟨gb357,2,none⟩) (Kd.R_far (p := ⟨gb357,1,none⟩) (Kd.R_far (p := ⟨gb357,0,none⟩) (Kd.R_types HO_356000.out BK357.out (by decide)) (fun _ hk => hk.2) (.int .i64 ((rd_T37 l0 x10_1).f0))) (fun _ hk => hk.2) (.int .i64 ((rd_T37 l0 x10_1).f1))) (fun _ hk => hk.2) (.int .i64 ((rd_T37 l0 x10_1).f2))) (fun _ hk => hk.2) (.slice A356_3 ((rd_T37 l0 x10_1).f3).length c356_3)) (fun _ hk => hk.2) (.slice A356_4 ((rd_T37 l0 x10_1).f4).length c356_4)) (fun _ hk => hk.2) (.slice A356_5 ((rd_T37 l0 x10_1).f5).length c356_5)) (fun _ h_ => h_.1))) hb);replace HO_356001 := aK (Kd.R_below (by (with_reducible repeat (first|apply Kd.R_alloc|apply Kd.R_drewN|apply Kd.R_drew));exact (Kd.R_mono (Kd.R_far (p := ⟨gb357,5,none⟩) (Kd.R_far (p := ⟨gb357,4,none⟩) (Kd.R_far (p := ⟨gb357,3,none⟩) (Kd.R_far (p := ⟨gb357,2,none⟩) (Kd.R_far (p := ⟨gb357,1,none⟩) (Kd.R_far (p := ⟨gb357,0,none⟩) (Kd.R_types HO_356001.out BK357.out (by decide)) (fun _ hk => hk.2) (.int .i64 ((rd_T37 l0 x10_1).f0))) (fun _ hk => hk.2) (.int .i64 ((rd_T37 l0 x10_1).f1))) (fun _ hk => hk.2) (.int .i64 ((rd_T37 l0 x10_1).f2))) (fun _ hk => hk.2) (.slice A356_3 ((rd_T37 l0 x10_1).f3).length c356_3)) (fun _ hk => hk.2) (.slice A356_4 ((rd_T37 l0 x10_1).f4).length c356_4)) (fun _ hk => hk.2) (.slice A356_5 ((rd_T37 l0 x10_1).f5).length c356_5)) (fun _ h_ => h_.1))) hb);replace BK355 := aK (blk_below (g := gb355) (o := .cells #[.slice Ao14 x356000_1.length co14,.slice Ao15 x356001_1.length co15,.int .i64 x356002_1] 48 (0,0)) (by (with_reducible repeat (first|refine blk_drewN ?_ _|refine blk_drew ?_|refine blk_alloc ?_ _));refine blk_far ?_ NB355_357.out _;(with_reducible repeat (first|refine blk_drewN ?_ _|refine blk_drew ?_|refine blk_alloc ?_ _));refine blk_far ?_ NB355_357.out _;(with_reducible repeat (first|refine blk_drewN ?_ _|refine blk_drew ?_|refine blk_alloc ?_ _));refine blk_far ?_ NB355_357.out _;(with_reducible repeat (first|refine blk_drewN ?_ _|refine blk_drew ?_|refine blk_alloc ?_ _));refine blk_far ?_ NB355_357.out _;(with_reducible repeat (first|refine blk_drewN ?_ _|refine blk_drew ?_|refine blk_alloc ?_ _));refine blk_far ?_ NB355_357.out _;(with_reducible repeat (first|refine blk_drewN ?_ _|refine blk_drew ?_|refine blk_alloc ?_ _));refine blk_far ?_ NB355_357.out _;(with_reducible repeat (first|refine blk_drewN ?_ _|refine blk_drew ?_|refine blk_alloc ?_ _));exact BK355.out) hb);replace BK357 := aK (blk_below (g := gb357) (o := .cells #[.int .i64 ((rd_T37 l0 x10_1).f0),.int .i64 ((rd_T37 l0 x10_1).f1),.int .i64 ((rd_T37 l0 x10_1).f2),.slice A356_3 ((rd_T37 l0 x10_1).f3).length c356_3,.slice A356_4 ((rd_T37 l0 x10_1).f4).length c356_4,.slice A356_5 ((rd_T37 l0 x10_1).f5).length c356_5] 37 (0,0)) (by (with_reducible repeat (first|refine blk_drewN ?_ _|refine blk_drew ?_|refine blk_alloc ?_ _));refine blk_put (cs := #[.int .i64 ((rd_T37 l0 x10_1).f0),.int .i64 ((rd_T37 l0 x10_1).f1),.int .i64 ((rd_T37 l0 x10_1).f2),.slice A356_3 ((rd_T37 l0 x10_1).f3).length c356_3,.slice A356_4 ((rd_T37 l0 x10_1).f4).length c356_4,.slice none 0 0]) ?_ 5 _ rfl;(with_reducible repeat (first|refine blk_drewN ?_ _|refine blk_drew ?_|refine blk_alloc ?_ _));refine blk_put (cs := #[.int .i64 ((rd_T37 l0 x10_1).f0),.int .i64 ((rd_T37 l0 x10_1).f1),.int .i64 ((rd_T37 l0 x10_1).f2),.slice A356_3 ((rd_T37 l0 x10_1).f3).length c356_3,.slice none 0 0,.slice none 0 0]) ?_ 4 _ rfl;(with_reducible repeat (first|refine blk_drewN ?_ _|refine blk_drew ?_|refine blk_alloc ?_ _));refine blk_put (cs := #[.int .i64 ((rd_T37 l0 x10_1).f0),.int .i64 ((rd_T37 l0 x10_1).f1),.int .i64 ((rd_T37 l0 x10_1).f2),.slice none 0 0,.slice none 0 0,.slice none 0 0]) ?_ 3 _ rfl;(with_reducible repeat (first|refine blk_drewN ?_ _|refine blk_drew ?_|refine blk_alloc ?_ _));refine blk_put (cs := #[.int .i64 ((rd_T37 l0 x10_1).f0),.int .i64 ((rd_T37 l0 x10_1).f1),.int .i64 0,.slice none 0 0,.slice none 0 0,.slice none 0 0]) ?_ 2 _ rfl;(with_reducible repeat (first|refine blk_drewN ?_ _|refine blk_drew ?_|refine blk_alloc ?_ _));refine blk_put (cs := #[.int .i64 ((rd_T37 l0 x10_1).f0),.int .i64 0,.int .i64 0,.slice none 0 0,.slice none 0 0,.slice none 0 0]) ?_ 1 _ rfl;(with_reducible repeat (first|refine blk_drewN ?_ _|refine blk_drew ?_|refine blk_alloc ?_ _));refine blk_put (cs := #[.int .i64 0,.int .i64 0,.int .i64 0,.slice none 0 0,.slice none 0 0,.slice none 0 0]) ?_ 0 _ rfl;(with_reducible repeat (first|refine blk_drewN ?_ _|refine blk_drew ?_|refine blk_alloc ?_ _));exact BK357.out) hb);replace HB := aK (below_step (bG HB.out) hb);(try clear hb);(try clear hk);obtain ⟨_,_,_,_,_,_⟩ := bk3_ BK355.out;obtain ⟨_,_,_,_,_,_,_,_,_,_,_,_⟩ := bk6_ BK357.out)|((with_reducible refine gate_callee (f := 42) rfl ?_);refine goesL_ (some 24) rfl rfl Tryd.func42 (by kernel_rfl) rfl #[.agg #[.slice Ao14 x356000_1.length co14,.slice Ao15 x356001_1.length co15,.int .i64 x356002_1],.agg #[.int .i64 ((rd_T37 l0 x10_1).f0),.int .i64 ((rd_T37 l0 x10_1).f1),.int .i64 ((rd_T37 l0 x10_1).f2),.slice A356_3 ((rd_T37 l0 x10_1).f3).length c356_3,.slice A356_4 ((rd_T37 l0 x10_1).f4).length c356_4,.slice A356_5 ((rd_T37 l0 x10_1).f5).length c356_5]] rfl (by (try simp only [List.map_toArray,List.map_cons,List.map_nil]);first|done|rfl|(simp only [List.length_drop,List.length_take];rfl)) ?_;(with_reducible refine (manifest_state_after.calls k1 (fun k_ => some k_ = (.slice Ao14 x356000_1.length co14 : Value).ownBlock) (.slice Ao14 x356000_1.length co14) x356000_1 (fun k_ => some k_ = (.slice Ao15 x356001_1.length co15 : Value).ownBlock) (.slice Ao15 x356001_1.length co15) x356001_1 x356002_1 ((rd_T37 l0 x10_1).f0) ((rd_T37 l0 x10_1).f1) ((rd_T37 l0 x10_1).f2) (fun k_ => k_ < w.heap.size) _ _ ((rd_T37 l0 x10_1).f3) _ _ ((rd_T37 l0 x10_1).f4) _ _ ((rd_T37 l0 x10_1).f5) t359 t362 t365 w _ ?side1 ?side2 ?side3 ?side4 ?side5 ?side6 ?side7 ?side8 ?side9 ?side10 A9.out).mono ?_);(case side1 => repeat (first|(with_reducible first|exact HB.out|apply below_alloc|apply pw_below_drewN|apply below_drew1|refine below_set ?_ GE355.out|refine below_set ?_ GE357.out)|exact HB.out));(case side2 => exact Kd.R_tight rfl HO_356000.out);(case side3 => exact fun k_ e_ => (HO_356000.out.1 k_ e_.symm));(case side4 => exact Kd.R_tight rfl HO_356001.out);(case side5 => exact fun k_ e_ => (HO_356001.out.1 k_ e_.symm));(case side6 => exact Kd.V_mono (Kd.V_mk HC356_3.out (Kd.F_below (Kd.C_F (Kd.heap_int .i64) HR356_3.out) (bG HB.out))) (fun k_ hk_ => ⟨hk_,fun e_ => Nat.not_le.2 hk_ (Kd.R_base HO_356000.out k_ e_.symm),fun e_ => Nat.not_le.2 hk_ (Kd.R_base HO_356001.out k_ e_.symm)⟩));(case side7 => exact Kd.C_kept_came (Kd.heap_int .i64) HR356_4.out (bG HB.out) (fun k_ hs_ => Or.elim hs_ (fun e_ => (fun e_ => Kd.R_base HO_356000.out k_ e_.symm) e_) (fun e_ => (fun e_ => Kd.R_base HO_356001.out k_ e_.symm) e_)));(case side8 => exact HC356_4.out);(case side9 => exact Kd.C_kept_came Kd.heap_string HR356_5.out (bG HB.out) (fun k_ hs_ => Or.elim hs_ (fun e_ => (fun e_ => Kd.R_base HO_356000.out k_ e_.symm) e_) (fun e_ => (fun e_ => Kd.R_base HO_356001.out k_ e_.symm) e_)));(case side10 => exact HC356_5.out);rintro e w19 ⟨v360,v363,rfl,ho0,ho1,hb,hkp⟩;refine ⟨_,rfl,?_⟩;replace BK355 := aK (blk_kept (kM BK355.out) hkp (fun hs_ => Or.elim hs_ (fun e_ => (fun e_ => (Kd.R_ne HO_356000.out BK355.out (by decide)) e_) e_) (fun e_ => (fun e_ => (Kd.R_ne HO_356001.out BK355.out (by decide)) e_) e_)));replace BK357 := aK (blk_kept (kM BK357.out) hkp (fun hs_ => Or.elim hs_ (fun e_ => (fun e_ => (Kd.R_ne HO_356000.out BK357.out (by decide)) e_) e_) (fun e_ => (fun e_ => (Kd.R_ne HO_356001.out BK357.out (by decide)) e_) e_)));have HO361 := aK (Kd.R_mono (ok' := fun k_ => some k_ ≠ (v363 : Value).ownBlock) ho0 (fun k_ hk_ => hk_.2));have HO364 := aK (Kd.R_mono (ok' := fun k_ => some k_ ≠ (v360 : Value).ownBlock) ho1 (fun k_ hk_ => hk_.2));replace HB := aK (hb);(try clear hb);(try clear hkp);(try clear ho0);(try clear ho1);obtain ⟨Ao20,co20,eo20⟩ := Kd.R_slice HO361.out;subst eo20;obtain ⟨_,_,_,_,_,_⟩ := bk3_ BK355.out;obtain ⟨Ao22,co22,eo22⟩ := Kd.R_slice HO364.out;subst eo22))
     go_roundg k1
     case measure => have := HK1.out;omega
     case rel => exact ⟨(wrap64 (x10_1 + 1)),(t359),(t362),(t365),(.slice Ao20 t359.length co20),(.slice Ao22 t362.length co22),(by first|rfl|(simp;done)|(simp [*];done)),H',⟨by have := HK1.out;omega⟩,⟨by (with_reducible repeat (first|apply Kd.R_alloc|apply Kd.R_drewN|apply Kd.R_drew));exact Kd.R_mono (Kd.R_far (p := ⟨gb355,2,none⟩) (Kd.R_far (p := ⟨gb355,1,none⟩) (Kd.R_far (p := ⟨gb355,0,none⟩) (Kd.R_types HO361.out BK355.out (by decide)) (fun _ hk => hk.2) (.slice Ao20 t359.length co20)) (fun _ hk => hk.2) (.slice Ao22 t362.length co22)) (fun _ hk => hk.2) (.int .i64 t365)) (fun _ hk => hk.1)⟩,⟨by (with_reducible repeat (first|apply Kd.R_alloc|apply Kd.R_drewN|apply Kd.R_drew));exact Kd.R_mono (Kd.R_far (p := ⟨gb355,2,none⟩) (Kd.R_far (p := ⟨gb355,1,none⟩) (Kd.R_far (p := ⟨gb355,0,none⟩) (Kd.R_types HO364.out BK355.out (by decide)) (fun _ hk => hk.2) (.slice Ao20 t359.length co20)) (fun _ hk => hk.2) (.slice Ao22 t362.length co22)) (fun _ hk => hk.2) (.int .i64 t365)) (fun _ hk => hk.1)⟩,⟨by (with_reducible repeat (first|refine blk_drewN ?_ _|refine blk_drew ?_|refine blk_alloc ?_ _));refine blk_put (cs := #[.slice Ao20 t359.length co20,.slice Ao22 t362.length co22,.int .i64 x356002_1]) ?_ 2 _ rfl;(with_reducible repeat (first|refine blk_drewN ?_ _|refine blk_drew ?_|refine blk_alloc ?_ _));refine blk_put (cs := #[.slice Ao20 t359.length co20,.slice Ao15 x356001_1.length co15,.int .i64 x356002_1]) ?_ 1 _ rfl;(with_reducible repeat (first|refine blk_drewN ?_ _|refine blk_drew ?_|refine blk_alloc ?_ _));refine blk_put (cs := #[.slice Ao14 x356000_1.length co14,.slice Ao15 x356001_1.length co15,.int .i64 x356002_1]) ?_ 0 _ rfl;(with_reducible repeat (first|refine blk_drewN ?_ _|refine blk_drew ?_|refine blk_alloc ?_ _));exact BK355.out⟩,⟨bG HB.out⟩⟩
    ·rw [if_neg c8] at H
     have c8b0 := beq_eq_false_iff_ne.mpr c8
     have c8b1 := bne_iff_ne.mpr c8
     obtain rfl := Option.some.inj H
     have p356 : 0 ≤ (x10_1 : Int) := of_decide_eq_true (by assumption)
     have q356 : x10_1 < (l0.length : Int) := of_decide_eq_true (by assumption)
     obtain ⟨ad356,A356_3,c356_3,A356_4,c356_4,A356_5,c356_5,e356,hx356_0,hx356_1,hx356_2,hx356_3,hx356_4,hx356_5,hl356_3,hi356_3,hl356_4,hi356_4,hl356_5,hi356_5⟩ := at_T37 HR0.out x10_1 p356 q356
     cases e356
     replace hx356_0 := xM HB hx356_0
     replace hx356_1 := xM HB hx356_1
     replace hx356_2 := xM HB hx356_2
     replace hx356_3 := xM HB hx356_3
     replace hx356_4 := xM HB hx356_4
     replace hx356_5 := xM HB hx356_5
     have HR356_3 := aK hi356_3
     have HC356_3 := aK hl356_3
     clear hi356_3 hl356_3
     have HR356_4 := aK hi356_4
     have HC356_4 := aK hl356_4
     clear hi356_4 hl356_4
     have HR356_5 := aK hi356_5
     have HC356_5 := aK hl356_5
     clear hi356_5 hl356_5
     replace p356 := eq_true p356
     replace q356 := eq_true q356
     go_wp2_with (first|((with_reducible refine gate_dst (N := 5) rfl ?_);refine box_event ?hg (N := 5) ?hd (cs := #[.int .i64 0,.int .i64 0,.int .i64 0,.slice none 0 0,.slice none 0 0,.slice none 0 0]) (t := 37) ?hr ?_;(case hd => rfl);(case hg => rfl);(case hr => first|(go_simp;done)|(go_simp;rfl));intro gb357 hg w23 hbox hb;replace HO_356000 := aK (Kd.R_below (rM HO_356000.out) hb);replace HO_356001 := aK (Kd.R_below (rM HO_356001.out) hb);have BK357 := aK (hbox);have GW357 := aK ((by rw [hg];exact (below_size (bG HB.out)) : w.heap.size ≤ gb357));have GJ357 := Ge.mk GW357.out;have GE357 := aK ((by rw [hg];exact (below_size (bG HB.out)) : w.heap.size ≤ gb357));have GI357 := Ge.mk GE357.out;replace HB := aK (below_step (bG HB.out) hb);have NB355_357 := aK (nbL BK355.out hg);have NB357_355 := aK (nbR BK355.out hg);replace BK355 := aK (blk_below (kM BK355.out) hb);clear hb hbox hg;have hnb24 := NB357_355.out;have hnc24 := NB355_357.out;obtain ⟨_,_,_,_,_,_,_,_,_,_,_,_⟩ := bk6_ BK357.out;obtain ⟨_,_,_,_,_,_⟩ := bk3_ BK355.out;obtain ⟨Ao27,co27,eo27⟩ := Kd.R_slice HO_356000.out;subst eo27;obtain ⟨Ao28,co28,eo28⟩ := Kd.R_slice HO_356001.out;subst eo28)|((with_reducible refine gate_callee (f := 41) rfl ?_);refine goesL_ (some 18) rfl rfl Tryd.func41 (by kernel_rfl) rfl #[.agg #[.slice Ao27 x356000_1.length co27,.slice Ao28 x356001_1.length co28,.int .i64 x356002_1],.int .i64 x10_1,.agg #[.int .i64 ((rd_T37 l0 x10_1).f0),.int .i64 ((rd_T37 l0 x10_1).f1),.int .i64 ((rd_T37 l0 x10_1).f2),.slice A356_3 ((rd_T37 l0 x10_1).f3).length c356_3,.slice A356_4 ((rd_T37 l0 x10_1).f4).length c356_4,.slice A356_5 ((rd_T37 l0 x10_1).f5).length c356_5]] rfl (by (try simp only [List.map_toArray,List.map_cons,List.map_nil]);first|done|rfl|(simp only [List.length_drop,List.length_take];rfl)) ?_;(with_reducible refine (manifest_check.calls k1 _ _ x356000_1 _ _ x356001_1 x356002_1 x10_1 ((rd_T37 l0 x10_1).f0) ((rd_T37 l0 x10_1).f1) ((rd_T37 l0 x10_1).f2) _ _ ((rd_T37 l0 x10_1).f3) _ _ ((rd_T37 l0 x10_1).f4) _ _ ((rd_T37 l0 x10_1).f5) t358 _ ?side1 ?side2 ?side3 ?side4 ?side5 ?side6 ?side7 ?side8 ?side9 ?side10 A7.out).mono ?_);(case side1 => refine (Kd.R_reads' (e := 3) (base := w.heap.size) (ok := fun k_ => some k_ ≠ (.slice Ao28 x356001_1.length co28 : Value).ownBlock) (n := x356000_1.length) (c := co27) ?_).2.2;exact (by (with_reducible repeat (first|apply Kd.R_alloc|apply Kd.R_drewN|apply Kd.R_drew));exact (Kd.R_mono (Kd.R_far (p := ⟨gb357,5,none⟩) (Kd.R_far (p := ⟨gb357,4,none⟩) (Kd.R_far (p := ⟨gb357,3,none⟩) (Kd.R_far (p := ⟨gb357,2,none⟩) (Kd.R_far (p := ⟨gb357,1,none⟩) (Kd.R_far (p := ⟨gb357,0,none⟩) (Kd.R_types HO_356000.out BK357.out (by decide)) (fun _ hk => hk.2) (.int .i64 ((rd_T37 l0 x10_1).f0))) (fun _ hk => hk.2) (.int .i64 ((rd_T37 l0 x10_1).f1))) (fun _ hk => hk.2) (.int .i64 ((rd_T37 l0 x10_1).f2))) (fun _ hk => hk.2) (.slice A356_3 ((rd_T37 l0 x10_1).f3).length c356_3)) (fun _ hk => hk.2) (.slice A356_4 ((rd_T37 l0 x10_1).f4).length c356_4)) (fun _ hk => hk.2) (.slice A356_5 ((rd_T37 l0 x10_1).f5).length c356_5)) (fun _ h_ => h_.1))));(case side2 => exact (Kd.R_reads' HO_356000.out).2.1);(case side3 => refine (Kd.R_reads' (e := 3) (base := w.heap.size) (ok := fun k_ => some k_ ≠ (.slice Ao27 x356000_1.length co27 : Value).ownBlock) (n := x356001_1.length) (c := co28) ?_).2.2;exact (by (with_reducible repeat (first|apply Kd.R_alloc|apply Kd.R_drewN|apply Kd.R_drew));exact (Kd.R_mono (Kd.R_far (p := ⟨gb357,5,none⟩) (Kd.R_far (p := ⟨gb357,4,none⟩) (Kd.R_far (p := ⟨gb357,3,none⟩) (Kd.R_far (p := ⟨gb357,2,none⟩) (Kd.R_far (p := ⟨gb357,1,none⟩) (Kd.R_far (p := ⟨gb357,0,none⟩) (Kd.R_types HO_356001.out BK357.out (by decide)) (fun _ hk => hk.2) (.int .i64 ((rd_T37 l0 x10_1).f0))) (fun _ hk => hk.2) (.int .i64 ((rd_T37 l0 x10_1).f1))) (fun _ hk => hk.2) (.int .i64 ((rd_T37 l0 x10_1).f2))) (fun _ hk => hk.2) (.slice A356_3 ((rd_T37 l0 x10_1).f3).length c356_3)) (fun _ hk => hk.2) (.slice A356_4 ((rd_T37 l0 x10_1).f4).length c356_4)) (fun _ hk => hk.2) (.slice A356_5 ((rd_T37 l0 x10_1).f5).length c356_5)) (fun _ h_ => h_.1))));(case side4 => exact (Kd.R_reads' HO_356001.out).2.1);(case side5 => exact Kd.C_below HR356_3.out (bG HB.out));(case side6 => exact HC356_3.out);(case side7 => exact Kd.C_below HR356_4.out (bG HB.out));(case side8 => exact HC356_4.out);(case side9 => exact Kd.C_below HR356_5.out (bG HB.out));(case side10 => exact HC356_5.out);rintro e w29 ⟨rfl,hb⟩;refine ⟨_,rfl,?_⟩;replace HB := aK (below_step (bG HB.out) hb);(try clear hb);(try clear hk)))
     go_ret
     exact ⟨by first|rfl|(simp [errW_none,errW_some] <;> rfl)|(simp [*,errW_none,errW_some] <;> rfl),bG HB.out⟩
   ·rw [if_neg c4] at H
    have c4b0 := decide_eq_false c4
    clear c4
    obtain rfl := Option.some.inj H
    go_wp2
    go_ret
    exact ⟨by first|rfl|(simp [errW_none,errW_some] <;> rfl)|(simp [*,errW_none,errW_some] <;> rfl),bG HB.out⟩

/-! ### codesearchlaw33_example: function 22 -/
def codesearchlaw33_example.f  : Option ((List (S37))) := some (([(⟨1, 1, 1, ([] : List Int), ([] : List Int), ([] : List ByteArray)⟩ : S37), (⟨2, 1, 2, ([] : List Int), ([] : List Int), ([] : List ByteArray)⟩ : S37), (⟨3, 2, 0, (([7, 9] : List Int)), ([] : List Int), ([] : List ByteArray)⟩ : S37), (⟨4, 3, 3, ([] : List Int), (([1, 2] : List Int)), ([] : List ByteArray)⟩ : S37)] : List (S37)))
set_option maxHeartbeats 4000000 in
set_option maxRecDepth 100000 in
theorem codesearchlaw33_example.calls  (r : List (S37)) (w : World) (h : codesearchlaw33_example.f  = some r) :
  Calls Tryd.prog 22 #[] w fun e w' => ∃ v0_ : Value,e = .returned (v0_) ∧ Kd.N k37 37 w' w.heap.size (fun k_ => (w.heap.size ≤ k_)) v0_ r ∧ Below w.heap.size w w' := by
 have hu37 := Tryd.underlying37
 have HB := aK (Below.refl w.heap.size w)
 unfold codesearchlaw33_example.f at h
 have H := h
 clear h
 obtain ⟨y366,hy366⟩ : ∃ y_ : List Int,y_ = (([7,9] : List Int)) := ⟨_,rfl⟩
 replace H : (some (([(⟨1,1,1,([] : List Int),([] : List Int),([] : List ByteArray)⟩ : S37),(⟨2,1,2,([] : List Int),([] : List Int),([] : List ByteArray)⟩ : S37),(⟨3,2,0,y366,([] : List Int),([] : List ByteArray)⟩ : S37),(⟨4,3,3,([] : List Int),(([1,2] : List Int)),([] : List ByteArray)⟩ : S37)] : List (S37)))) = some r := by first|(rw [hy366];with_reducible exact H)|(have H2_ := (Option.bind_some _ _).symm.trans H;rw [hy366];with_reducible exact H2_)|(have H2_ := (Option.bind_some _ _).symm.trans H;with_reducible exact H2_)|with_reducible exact H|(rw [hy366];exact H)|exact H
 have Ny366 := aK hy366
 clear hy366
 obtain ⟨y369,hy369⟩ : ∃ y_ : List Int,y_ = (([1,2] : List Int)) := ⟨_,rfl⟩
 replace H : (some (([(⟨1,1,1,([] : List Int),([] : List Int),([] : List ByteArray)⟩ : S37),(⟨2,1,2,([] : List Int),([] : List Int),([] : List ByteArray)⟩ : S37),(⟨3,2,0,y366,([] : List Int),([] : List ByteArray)⟩ : S37),(⟨4,3,3,([] : List Int),y369,([] : List ByteArray)⟩ : S37)] : List (S37)))) = some r := by first|(rw [hy369];with_reducible exact H)|(have H2_ := (Option.bind_some _ _).symm.trans H;rw [hy369];with_reducible exact H2_)|(have H2_ := (Option.bind_some _ _).symm.trans H;with_reducible exact H2_)|with_reducible exact H|(rw [hy369];exact H)|exact H
 have Ny369 := aK hy369
 clear hy369
 obtain ⟨y372,hy372⟩ : ∃ y_ : List (S37),y_ = (([(⟨1,1,1,([] : List Int),([] : List Int),([] : List ByteArray)⟩ : S37),(⟨2,1,2,([] : List Int),([] : List Int),([] : List ByteArray)⟩ : S37),(⟨3,2,0,y366,([] : List Int),([] : List ByteArray)⟩ : S37),(⟨4,3,3,([] : List Int),y369,([] : List ByteArray)⟩ : S37)] : List (S37))) := ⟨_,rfl⟩
 replace H : (some y372) = some r := by first|(rw [hy372];with_reducible exact H)|(have H2_ := (Option.bind_some _ _).symm.trans H;rw [hy372];with_reducible exact H2_)|(have H2_ := (Option.bind_some _ _).symm.trans H;with_reducible exact H2_)|with_reducible exact H|(rw [hy372];exact H)|exact H
 have Ny372 := aK hy372
 clear hy372
 obtain rfl := Option.some.inj H
 go_enter Tryd.func22,Tryd.ntmps22
 go_wp2_with (first|((with_reducible refine gate_dst (N := 3) rfl ?_);refine Kd.R_lit (Kd.int .i64) _ 3 ?hg (N := 3) ?hd (xs := ([7,9] : List Int)) (inner := [.int .i64 7,.int .i64 9]) (ok := fun _ => True) (okp := fun _ => True) ?hr ?hp (fun _ hk => hk) trivial (Below.refl _ _) (Nat.le_refl _) (by simp) ?_;(case hd => rfl);(case hg => rfl);(case hr => first|(go_simp;done)|(go_simp;rfl));(case hp => exact (Reps.one (show Kd.M (Kd.int .i64) _ _ _ 7 [.int .i64 7] from rfl) (Reps.one (show Kd.M (Kd.int .i64) _ _ _ 9 [.int .i64 9] from rfl) (Reps.none _ _))));intro v367 w1 ho2 hb hg_ hnew_;clear hg_ hnew_;(first|rw [← Ny366.out] at ho2|(simp only [Int.reduceToNat] at ho2;rw [← Ny366.out] at ho2));have HO368 := aK (Kd.R_lower (Kd.R_newM (M := fun k_ => (w.heap.size ≤ k_)) ho2 (below_size (bM HB.out)) (fun k_ h_ => h_)) (below_size (bM HB.out)));replace HB := aK (below_step (bM HB.out) hb);clear hb ho2;obtain ⟨Ao3,co3,eo3⟩ := Kd.R_slice HO368.out;subst eo3)|((with_reducible refine gate_dst (N := 5) rfl ?_);refine Kd.R_lit (Kd.int .i64) _ 3 ?hg (N := 5) ?hd (xs := ([1,2] : List Int)) (inner := [.int .i64 1,.int .i64 2]) (ok := fun _ => True) (okp := fun _ => True) ?hr ?hp (fun _ hk => hk) trivial (Below.refl _ _) (Nat.le_refl _) (by simp) ?_;(case hd => rfl);(case hg => rfl);(case hr => first|(go_simp;done)|(go_simp;rfl));(case hp => exact (Reps.one (show Kd.M (Kd.int .i64) _ _ _ 1 [.int .i64 1] from rfl) (Reps.one (show Kd.M (Kd.int .i64) _ _ _ 2 [.int .i64 2] from rfl) (Reps.none _ _))));intro v370 w4 ho5 hb hg_ hnew_;clear hg_ hnew_;(first|rw [← Ny369.out] at ho5|(simp only [Int.reduceToNat] at ho5;rw [← Ny369.out] at ho5));have HO371 := aK (Kd.R_lower (Kd.R_new' (Kd.R_newM (M := fun k_ => (w.heap.size ≤ k_)) ho5 (below_size (bM HB.out)) (fun k_ h_ => h_)) (Kd.R_lt (rM HO368.out))) (below_size (bM HB.out)));replace HO368 := aK (Kd.R_elder' (rM HO368.out) (Kd.R_base ho5) hb);replace HB := aK (below_step (bM HB.out) hb);clear hb ho5;obtain ⟨Ao6,co6,eo6⟩ := Kd.R_slice HO371.out;subst eo6)|((with_reducible refine gate_dst (N := 7) rfl ?_);refine Kd.N_lit k37 _ 37 ?hg (N' := 7) ?hd (xs := ([(⟨1,1,1,([] : List Int),([] : List Int),([] : List ByteArray)⟩ : S37),(⟨2,1,2,([] : List Int),([] : List Int),([] : List ByteArray)⟩ : S37),(⟨3,2,0,y366,([] : List Int),([] : List ByteArray)⟩ : S37),(⟨4,3,3,([] : List Int),y369,([] : List ByteArray)⟩ : S37)] : List (S37))) (inner := [.int .i64 1,.int .i64 1,.int .i64 1,.slice none 0 0,.slice none 0 0,.slice none 0 0,.int .i64 2,.int .i64 1,.int .i64 2,.slice none 0 0,.slice none 0 0,.slice none 0 0,.int .i64 3,.int .i64 2,.int .i64 0,.slice Ao3 y366.length co3,.slice none 0 0,.slice none 0 0,.int .i64 4,.int .i64 3,.int .i64 3,.slice none 0 0,.slice Ao6 y369.length co6,.slice none 0 0]) (ok := (fun k_ => (w.heap.size ≤ k_))) (okp := (fun k_ => (w.heap.size ≤ k_))) ?hr ?hp (fun _ hk => hk) ((show ∀ k_,w4.heap.size ≤ k_ → (fun k_ => (w.heap.size ≤ k_)) k_ from fun k_ hk => (Nat.le_trans (below_size (bM HB.out)) hk)) _ (Nat.le_refl _)) (Below.refl _ _) (Nat.le_refl _) (by simp) ?_;(case hd => rfl);(case hg => rfl);(case hr => first|(go_simp;done)|(go_simp;rfl));(case hp => exact (Reps.c6 (show Kd.FK k37 _ _ (⟨1,1,1,([] : List Int),([] : List Int),([] : List ByteArray)⟩ : S37) [.int .i64 1,.int .i64 1,.int .i64 1,.slice none 0 0,.slice none 0 0,.slice none 0 0] from (k37_mkF _ _ (⟨1,1,1,([] : List Int),([] : List Int),([] : List ByteArray)⟩ : S37) (Nat.le_refl _) (Kd.F_nil _ _ _) (Nat.le_refl _) (Kd.F_nil _ _ _) (Nat.le_refl _) (Kd.F_nil _ _ _))) (Reps.c6 (show Kd.FK k37 _ _ (⟨2,1,2,([] : List Int),([] : List Int),([] : List ByteArray)⟩ : S37) [.int .i64 2,.int .i64 1,.int .i64 2,.slice none 0 0,.slice none 0 0,.slice none 0 0] from (k37_mkF _ _ (⟨2,1,2,([] : List Int),([] : List Int),([] : List ByteArray)⟩ : S37) (Nat.le_refl _) (Kd.F_nil _ _ _) (Nat.le_refl _) (Kd.F_nil _ _ _) (Nat.le_refl _) (Kd.F_nil _ _ _))) (Reps.c6 (show Kd.FK k37 _ _ (⟨3,2,0,y366,([] : List Int),([] : List ByteArray)⟩ : S37) [.int .i64 3,.int .i64 2,.int .i64 0,.slice Ao3 y366.length co3,.slice none 0 0,.slice none 0 0] from (k37_mkF _ _ (⟨3,2,0,y366,([] : List Int),([] : List ByteArray)⟩ : S37) (Kd.R_reads' (Kd.R_mono (ok' := (fun k_ => (w.heap.size ≤ k_))) (HO368.out) (fun k_ hk => hk.1.1))).2.1 (Kd.R_F (Kd.R_mono (ok' := (fun k_ => (w.heap.size ≤ k_))) (HO368.out) (fun k_ hk => hk.1.1))) (Nat.le_refl _) (Kd.F_nil _ _ _) (Nat.le_refl _) (Kd.F_nil _ _ _))) (Reps.c6 (show Kd.FK k37 _ _ (⟨4,3,3,([] : List Int),y369,([] : List ByteArray)⟩ : S37) [.int .i64 4,.int .i64 3,.int .i64 3,.slice none 0 0,.slice Ao6 y369.length co6,.slice none 0 0] from (k37_mkF _ _ (⟨4,3,3,([] : List Int),y369,([] : List ByteArray)⟩ : S37) (Nat.le_refl _) (Kd.F_nil _ _ _) (Kd.R_reads' (Kd.R_mono (ok' := (fun k_ => (w.heap.size ≤ k_))) (HO371.out) (fun k_ hk => hk.1.1))).2.1 (Kd.R_F (Kd.R_mono (ok' := (fun k_ => (w.heap.size ≤ k_))) (HO371.out) (fun k_ hk => hk.1.1))) (Nat.le_refl _) (Kd.F_nil _ _ _))) (Reps.none _ _))))));intro v373 w7 ho8 hb hg_ hnew_;clear hg_ hnew_;(first|rw [← Ny372.out] at ho8|(simp only [Int.reduceToNat] at ho8;rw [← Ny372.out] at ho8));have HO374 := aK (Kd.N_lower ho8 (below_size (bM HB.out)));replace HB := aK (below_step (bM HB.out) hb);clear hb ho8))
 go_ret
 exact ⟨_,by first|rfl|(simp [errW_none,errW_some] <;> rfl)|(simp [*,errW_none,errW_some] <;> rfl),nM HO374.out,bM HB.out⟩

/-! ### codesearchlaw33_alive: function 7 -/
def codesearchlaw33_alive.f (k : Nat)  : Option (Bool) := (codesearchlaw33_example.f).bind fun t375 => ((manifest_Right.f k t375).bind fun t378 => (if t378 = 0 then (if 3 ≤ (t375.length : Int) then ((manifest_Live.f k (t375.take 3)).bind fun t384 => ((codesearchref33_SameInts.f k t384 (([1, 2] : List Int))).bind fun t390 => (if t390 = true then ((manifest_Dead.f k (t375.take 3)).bind fun t396 => ((codesearchref33_SameInts.f k t396 (([7, 9] : List Int))).bind fun t402 => (if t402 = true then ((manifest_Live.f k t375).bind fun t403 => ((codesearchref33_SameInts.f k t403 (([3] : List Int))).bind fun t409 => (if t409 = true then ((manifest_Dead.f k t375).bind fun t410 => (if (t410.length : Int) = 0 then ((manifest_Encode.f k 1 1 5 ([] : List Int) ([] : List Int) ([] : List ByteArray)).bind fun t413 => (if (strOfNums t413).toList = ([1, 1, 5, 0, 0, 0] : List UInt8) then (if 0 < (t375.length : Int) then ((manifest_Right.f k (([(⟨(rd_T37 t375 0).f0, (rd_T37 t375 0).f1, (rd_T37 t375 0).f2, (rd_T37 t375 0).f3, (rd_T37 t375 0).f4, (rd_T37 t375 0).f5⟩ : S37), (⟨2, 1, 1, ([] : List Int), ([] : List Int), ([] : List ByteArray)⟩ : S37)] : List (S37)))).bind fun t420 => ((manifest_Right.f k (([(⟨(rd_T37 t375 0).f0, (rd_T37 t375 0).f1, (rd_T37 t375 0).f2, (rd_T37 t375 0).f3, (rd_T37 t375 0).f4, (rd_T37 t375 0).f5⟩ : S37), (⟨2, 3, 2, ([] : List Int), (([4] : List Int)), ([] : List ByteArray)⟩ : S37)] : List (S37)))).bind fun t428 => ((manifest_Right.f k (([(⟨1, 2, 0, ([] : List Int), ([] : List Int), ([] : List ByteArray)⟩ : S37)] : List (S37)))).bind fun t432 => ((manifest_Write.f k t375).bind fun t433 => ((manifest_Recover.f k t433).bind fun bt436 => (if t420 = 7 then (if t428 = 8 then (if t432 = 1 then ((codesearchref33_SameAll.f k bt436.1 t375).bind fun t440 => (if t440 = true then ((manifest_Write.f k t375).bind fun t441 => (if bt436.2 = (t441.length : Int) then (some (decide (bt436.2 > 0))) else (none))) else (none))) else (none)) else (none)) else (none))))))) else (none)) else (none))) else (none))) else (none)))) else (none)))) else (none)))) else (none)) else (none)))
theorem codesearchlaw33_alive.mono : ∀ k, LeO (codesearchlaw33_alive.f k ) (codesearchlaw33_alive.f (k + 1) ) := by
 intro  k
 unfold codesearchlaw33_alive.f
 repeat' first
  |(with_reducible exact codesearchref33_SameAll.mono _ _ _)
  |(with_reducible exact codesearchref33_SameInts.mono _ _ _)
  |(with_reducible exact manifest_Dead.mono _ _)
  |(with_reducible exact manifest_Encode.mono _ _ _ _ _ _ _)
  |(with_reducible exact manifest_Live.mono _ _)
  |(with_reducible exact manifest_Recover.mono _ _)
  |(with_reducible exact manifest_Right.mono _ _)
  |(with_reducible exact manifest_Write.mono _ _)
  |(with_reducible exact LeO.refl _)
  |(with_reducible exact LeO.none _)
  |(with_reducible refine LeO.ite ?_ ?_)
  |(with_reducible refine LeO.bind ?_ (fun _ => ?_))
  |exact codesearchref33_SameAll.mono _ _ _
  |exact codesearchref33_SameInts.mono _ _ _
  |exact manifest_Dead.mono _ _
  |exact manifest_Encode.mono _ _ _ _ _ _ _
  |exact manifest_Live.mono _ _
  |exact manifest_Recover.mono _ _
  |exact manifest_Right.mono _ _
  |exact manifest_Write.mono _ _
  |exact LeO.none _
  |refine LeO.ite ?_ ?_
  |refine LeO.bind ?_ (fun _ => ?_)
set_option maxHeartbeats 4000000 in
set_option maxRecDepth 100000 in
theorem codesearchlaw33_alive.calls (k : Nat)  (r : Bool) (w : World) (h : codesearchlaw33_alive.f k  = some r) :
  Calls Tryd.prog 7 #[] w fun e w' => e = .returned (.bool r) ∧ Below w.heap.size w w' := by
 have hu37 := Tryd.underlying37
 have HB := aK (Below.refl w.heap.size w)
 unfold codesearchlaw33_alive.f at h
 have H := h
 clear h
 replace H := Option.bind_eq_some_iff.mp H
 obtain ⟨t375,A10,H⟩ := H
 have A1 := aK A10
 clear A10
 replace H := Option.bind_eq_some_iff.mp H
 obtain ⟨t378,A20,H⟩ := H
 have A2 := aK A20
 clear A20
 by_cases c3 : t378 = 0
 ·rw [if_pos c3] at H
  have c3b0 := beq_iff_eq.mpr c3
  have c3b1 := bne_eq_false_iff_eq.mpr c3
  clear c3
  obtain ⟨c4,H⟩ := iS H
  have c4b0 := eq_true c4
  have c4b1 := decide_eq_true c4
  clear c4
  obtain ⟨y379,hy379⟩ : ∃ y_ : List (S37),y_ = (t375.take 3) := ⟨_,rfl⟩
  replace H : ((manifest_Live.f k y379).bind fun t384 => ((codesearchref33_SameInts.f k t384 (([1,2] : List Int))).bind fun t390 => (if t390 = true then ((manifest_Dead.f k (t375.take 3)).bind fun t396 => ((codesearchref33_SameInts.f k t396 (([7,9] : List Int))).bind fun t402 => (if t402 = true then ((manifest_Live.f k t375).bind fun t403 => ((codesearchref33_SameInts.f k t403 (([3] : List Int))).bind fun t409 => (if t409 = true then ((manifest_Dead.f k t375).bind fun t410 => (if (t410.length : Int) = 0 then ((manifest_Encode.f k 1 1 5 ([] : List Int) ([] : List Int) ([] : List ByteArray)).bind fun t413 => (if (strOfNums t413).toList = ([1,1,5,0,0,0] : List UInt8) then (if 0 < (t375.length : Int) then ((manifest_Right.f k (([(⟨(rd_T37 t375 0).f0,(rd_T37 t375 0).f1,(rd_T37 t375 0).f2,(rd_T37 t375 0).f3,(rd_T37 t375 0).f4,(rd_T37 t375 0).f5⟩ : S37),(⟨2,1,1,([] : List Int),([] : List Int),([] : List ByteArray)⟩ : S37)] : List (S37)))).bind fun t420 => ((manifest_Right.f k (([(⟨(rd_T37 t375 0).f0,(rd_T37 t375 0).f1,(rd_T37 t375 0).f2,(rd_T37 t375 0).f3,(rd_T37 t375 0).f4,(rd_T37 t375 0).f5⟩ : S37),(⟨2,3,2,([] : List Int),(([4] : List Int)),([] : List ByteArray)⟩ : S37)] : List (S37)))).bind fun t428 => ((manifest_Right.f k (([(⟨1,2,0,([] : List Int),([] : List Int),([] : List ByteArray)⟩ : S37)] : List (S37)))).bind fun t432 => ((manifest_Write.f k t375).bind fun t433 => ((manifest_Recover.f k t433).bind fun bt436 => (if t420 = 7 then (if t428 = 8 then (if t432 = 1 then ((codesearchref33_SameAll.f k bt436.1 t375).bind fun t440 => (if t440 = true then ((manifest_Write.f k t375).bind fun t441 => (if bt436.2 = (t441.length : Int) then (some (decide (bt436.2 > 0))) else (none))) else (none))) else (none)) else (none)) else (none))))))) else (none)) else (none))) else (none))) else (none)))) else (none)))) else (none)))) = some r := by first|(rw [hy379];with_reducible exact H)|(have H2_ := (Option.bind_some _ _).symm.trans H;rw [hy379];with_reducible exact H2_)|(have H2_ := (Option.bind_some _ _).symm.trans H;with_reducible exact H2_)|with_reducible exact H|(rw [hy379];exact H)|exact H
  have Ny379 := aK hy379
  clear hy379
  replace H := Option.bind_eq_some_iff.mp H
  obtain ⟨t384,A50,H⟩ := H
  have A5 := aK A50
  clear A50
  obtain ⟨y387,hy387⟩ : ∃ y_ : List Int,y_ = (([1,2] : List Int)) := ⟨_,rfl⟩
  replace H : ((codesearchref33_SameInts.f k t384 y387).bind fun t390 => (if t390 = true then ((manifest_Dead.f k (t375.take 3)).bind fun t396 => ((codesearchref33_SameInts.f k t396 (([7,9] : List Int))).bind fun t402 => (if t402 = true then ((manifest_Live.f k t375).bind fun t403 => ((codesearchref33_SameInts.f k t403 (([3] : List Int))).bind fun t409 => (if t409 = true then ((manifest_Dead.f k t375).bind fun t410 => (if (t410.length : Int) = 0 then ((manifest_Encode.f k 1 1 5 ([] : List Int) ([] : List Int) ([] : List ByteArray)).bind fun t413 => (if (strOfNums t413).toList = ([1,1,5,0,0,0] : List UInt8) then (if 0 < (t375.length : Int) then ((manifest_Right.f k (([(⟨(rd_T37 t375 0).f0,(rd_T37 t375 0).f1,(rd_T37 t375 0).f2,(rd_T37 t375 0).f3,(rd_T37 t375 0).f4,(rd_T37 t375 0).f5⟩ : S37),(⟨2,1,1,([] : List Int),([] : List Int),([] : List ByteArray)⟩ : S37)] : List (S37)))).bind fun t420 => ((manifest_Right.f k (([(⟨(rd_T37 t375 0).f0,(rd_T37 t375 0).f1,(rd_T37 t375 0).f2,(rd_T37 t375 0).f3,(rd_T37 t375 0).f4,(rd_T37 t375 0).f5⟩ : S37),(⟨2,3,2,([] : List Int),(([4] : List Int)),([] : List ByteArray)⟩ : S37)] : List (S37)))).bind fun t428 => ((manifest_Right.f k (([(⟨1,2,0,([] : List Int),([] : List Int),([] : List ByteArray)⟩ : S37)] : List (S37)))).bind fun t432 => ((manifest_Write.f k t375).bind fun t433 => ((manifest_Recover.f k t433).bind fun bt436 => (if t420 = 7 then (if t428 = 8 then (if t432 = 1 then ((codesearchref33_SameAll.f k bt436.1 t375).bind fun t440 => (if t440 = true then ((manifest_Write.f k t375).bind fun t441 => (if bt436.2 = (t441.length : Int) then (some (decide (bt436.2 > 0))) else (none))) else (none))) else (none)) else (none)) else (none))))))) else (none)) else (none))) else (none))) else (none)))) else (none)))) else (none))) = some r := by first|(rw [hy387];with_reducible exact H)|(have H2_ := (Option.bind_some _ _).symm.trans H;rw [hy387];with_reducible exact H2_)|(have H2_ := (Option.bind_some _ _).symm.trans H;with_reducible exact H2_)|with_reducible exact H|(rw [hy387];exact H)|exact H
  have Ny387 := aK hy387
  clear hy387
  replace H := Option.bind_eq_some_iff.mp H
  obtain ⟨t390,A60,H⟩ := H
  have A6 := aK A60
  clear A60
  obtain ⟨c7,H⟩ := iS H
  subst c7
  have c8b0 := eq_true (of_decide_eq_true (by assumption) : 3 ≤ (t375.length : Int))
  obtain ⟨y391,hy391⟩ : ∃ y_ : List (S37),y_ = (t375.take 3) := ⟨_,rfl⟩
  replace H : ((manifest_Dead.f k y391).bind fun t396 => ((codesearchref33_SameInts.f k t396 (([7,9] : List Int))).bind fun t402 => (if t402 = true then ((manifest_Live.f k t375).bind fun t403 => ((codesearchref33_SameInts.f k t403 (([3] : List Int))).bind fun t409 => (if t409 = true then ((manifest_Dead.f k t375).bind fun t410 => (if (t410.length : Int) = 0 then ((manifest_Encode.f k 1 1 5 ([] : List Int) ([] : List Int) ([] : List ByteArray)).bind fun t413 => (if (strOfNums t413).toList = ([1,1,5,0,0,0] : List UInt8) then (if 0 < (t375.length : Int) then ((manifest_Right.f k (([(⟨(rd_T37 t375 0).f0,(rd_T37 t375 0).f1,(rd_T37 t375 0).f2,(rd_T37 t375 0).f3,(rd_T37 t375 0).f4,(rd_T37 t375 0).f5⟩ : S37),(⟨2,1,1,([] : List Int),([] : List Int),([] : List ByteArray)⟩ : S37)] : List (S37)))).bind fun t420 => ((manifest_Right.f k (([(⟨(rd_T37 t375 0).f0,(rd_T37 t375 0).f1,(rd_T37 t375 0).f2,(rd_T37 t375 0).f3,(rd_T37 t375 0).f4,(rd_T37 t375 0).f5⟩ : S37),(⟨2,3,2,([] : List Int),(([4] : List Int)),([] : List ByteArray)⟩ : S37)] : List (S37)))).bind fun t428 => ((manifest_Right.f k (([(⟨1,2,0,([] : List Int),([] : List Int),([] : List ByteArray)⟩ : S37)] : List (S37)))).bind fun t432 => ((manifest_Write.f k t375).bind fun t433 => ((manifest_Recover.f k t433).bind fun bt436 => (if t420 = 7 then (if t428 = 8 then (if t432 = 1 then ((codesearchref33_SameAll.f k bt436.1 t375).bind fun t440 => (if t440 = true then ((manifest_Write.f k t375).bind fun t441 => (if bt436.2 = (t441.length : Int) then (some (decide (bt436.2 > 0))) else (none))) else (none))) else (none)) else (none)) else (none))))))) else (none)) else (none))) else (none))) else (none)))) else (none)))) = some r := by first|(rw [hy391];with_reducible exact H)|(have H2_ := (Option.bind_some _ _).symm.trans H;rw [hy391];with_reducible exact H2_)|(have H2_ := (Option.bind_some _ _).symm.trans H;with_reducible exact H2_)|with_reducible exact H|(rw [hy391];exact H)|exact H
  have Ny391 := aK hy391
  clear hy391
  replace H := Option.bind_eq_some_iff.mp H
  obtain ⟨t396,A90,H⟩ := H
  have A9 := aK A90
  clear A90
  obtain ⟨y399,hy399⟩ : ∃ y_ : List Int,y_ = (([7,9] : List Int)) := ⟨_,rfl⟩
  replace H : ((codesearchref33_SameInts.f k t396 y399).bind fun t402 => (if t402 = true then ((manifest_Live.f k t375).bind fun t403 => ((codesearchref33_SameInts.f k t403 (([3] : List Int))).bind fun t409 => (if t409 = true then ((manifest_Dead.f k t375).bind fun t410 => (if (t410.length : Int) = 0 then ((manifest_Encode.f k 1 1 5 ([] : List Int) ([] : List Int) ([] : List ByteArray)).bind fun t413 => (if (strOfNums t413).toList = ([1,1,5,0,0,0] : List UInt8) then (if 0 < (t375.length : Int) then ((manifest_Right.f k (([(⟨(rd_T37 t375 0).f0,(rd_T37 t375 0).f1,(rd_T37 t375 0).f2,(rd_T37 t375 0).f3,(rd_T37 t375 0).f4,(rd_T37 t375 0).f5⟩ : S37),(⟨2,1,1,([] : List Int),([] : List Int),([] : List ByteArray)⟩ : S37)] : List (S37)))).bind fun t420 => ((manifest_Right.f k (([(⟨(rd_T37 t375 0).f0,(rd_T37 t375 0).f1,(rd_T37 t375 0).f2,(rd_T37 t375 0).f3,(rd_T37 t375 0).f4,(rd_T37 t375 0).f5⟩ : S37),(⟨2,3,2,([] : List Int),(([4] : List Int)),([] : List ByteArray)⟩ : S37)] : List (S37)))).bind fun t428 => ((manifest_Right.f k (([(⟨1,2,0,([] : List Int),([] : List Int),([] : List ByteArray)⟩ : S37)] : List (S37)))).bind fun t432 => ((manifest_Write.f k t375).bind fun t433 => ((manifest_Recover.f k t433).bind fun bt436 => (if t420 = 7 then (if t428 = 8 then (if t432 = 1 then ((codesearchref33_SameAll.f k bt436.1 t375).bind fun t440 => (if t440 = true then ((manifest_Write.f k t375).bind fun t441 => (if bt436.2 = (t441.length : Int) then (some (decide (bt436.2 > 0))) else (none))) else (none))) else (none)) else (none)) else (none))))))) else (none)) else (none))) else (none))) else (none)))) else (none))) = some r := by first|(rw [hy399];with_reducible exact H)|(have H2_ := (Option.bind_some _ _).symm.trans H;rw [hy399];with_reducible exact H2_)|(have H2_ := (Option.bind_some _ _).symm.trans H;with_reducible exact H2_)|with_reducible exact H|(rw [hy399];exact H)|exact H
  have Ny399 := aK hy399
  clear hy399
  replace H := Option.bind_eq_some_iff.mp H
  obtain ⟨t402,A100,H⟩ := H
  have A10 := aK A100
  clear A100
  obtain ⟨c11,H⟩ := iS H
  subst c11
  replace H := Option.bind_eq_some_iff.mp H
  obtain ⟨t403,A120,H⟩ := H
  have A12 := aK A120
  clear A120
  obtain ⟨y406,hy406⟩ : ∃ y_ : List Int,y_ = (([3] : List Int)) := ⟨_,rfl⟩
  replace H : ((codesearchref33_SameInts.f k t403 y406).bind fun t409 => (if t409 = true then ((manifest_Dead.f k t375).bind fun t410 => (if (t410.length : Int) = 0 then ((manifest_Encode.f k 1 1 5 ([] : List Int) ([] : List Int) ([] : List ByteArray)).bind fun t413 => (if (strOfNums t413).toList = ([1,1,5,0,0,0] : List UInt8) then (if 0 < (t375.length : Int) then ((manifest_Right.f k (([(⟨(rd_T37 t375 0).f0,(rd_T37 t375 0).f1,(rd_T37 t375 0).f2,(rd_T37 t375 0).f3,(rd_T37 t375 0).f4,(rd_T37 t375 0).f5⟩ : S37),(⟨2,1,1,([] : List Int),([] : List Int),([] : List ByteArray)⟩ : S37)] : List (S37)))).bind fun t420 => ((manifest_Right.f k (([(⟨(rd_T37 t375 0).f0,(rd_T37 t375 0).f1,(rd_T37 t375 0).f2,(rd_T37 t375 0).f3,(rd_T37 t375 0).f4,(rd_T37 t375 0).f5⟩ : S37),(⟨2,3,2,([] : List Int),(([4] : List Int)),([] : List ByteArray)⟩ : S37)] : List (S37)))).bind fun t428 => ((manifest_Right.f k (([(⟨1,2,0,([] : List Int),([] : List Int),([] : List ByteArray)⟩ : S37)] : List (S37)))).bind fun t432 => ((manifest_Write.f k t375).bind fun t433 => ((manifest_Recover.f k t433).bind fun bt436 => (if t420 = 7 then (if t428 = 8 then (if t432 = 1 then ((codesearchref33_SameAll.f k bt436.1 t375).bind fun t440 => (if t440 = true then ((manifest_Write.f k t375).bind fun t441 => (if bt436.2 = (t441.length : Int) then (some (decide (bt436.2 > 0))) else (none))) else (none))) else (none)) else (none)) else (none))))))) else (none)) else (none))) else (none))) else (none))) = some r := by first|(rw [hy406];with_reducible exact H)|(have H2_ := (Option.bind_some _ _).symm.trans H;rw [hy406];with_reducible exact H2_)|(have H2_ := (Option.bind_some _ _).symm.trans H;with_reducible exact H2_)|with_reducible exact H|(rw [hy406];exact H)|exact H
  have Ny406 := aK hy406
  clear hy406
  replace H := Option.bind_eq_some_iff.mp H
  obtain ⟨t409,A130,H⟩ := H
  have A13 := aK A130
  clear A130
  obtain ⟨c14,H⟩ := iS H
  subst c14
  replace H := Option.bind_eq_some_iff.mp H
  obtain ⟨t410,A150,H⟩ := H
  have A15 := aK A150
  clear A150
  obtain ⟨c16,H⟩ := iS H
  have c16b0 := beq_iff_eq.mpr c16
  have c16b1 := bne_eq_false_iff_eq.mpr c16
  clear c16
  replace H := Option.bind_eq_some_iff.mp H
  obtain ⟨t413,A170,H⟩ := H
  have A17 := aK A170
  clear A170
  obtain ⟨c18,H⟩ := iS H
  have c18b0 := beq_iff_eq.mpr c18
  have c18b1 := bne_eq_false_iff_eq.mpr c18
  clear c18
  obtain ⟨c19,H⟩ := iS H
  have c19b0 := decide_eq_true c19
  have c19b1 : decide (0 < t375.length) = true := decide_eq_true (by omega)
  clear c19
  obtain ⟨y417,hy417⟩ : ∃ y_ : List (S37),y_ = (([(⟨(rd_T37 t375 0).f0,(rd_T37 t375 0).f1,(rd_T37 t375 0).f2,(rd_T37 t375 0).f3,(rd_T37 t375 0).f4,(rd_T37 t375 0).f5⟩ : S37),(⟨2,1,1,([] : List Int),([] : List Int),([] : List ByteArray)⟩ : S37)] : List (S37))) := ⟨_,rfl⟩
  replace H : ((manifest_Right.f k y417).bind fun t420 => ((manifest_Right.f k (([(⟨(rd_T37 t375 0).f0,(rd_T37 t375 0).f1,(rd_T37 t375 0).f2,(rd_T37 t375 0).f3,(rd_T37 t375 0).f4,(rd_T37 t375 0).f5⟩ : S37),(⟨2,3,2,([] : List Int),(([4] : List Int)),([] : List ByteArray)⟩ : S37)] : List (S37)))).bind fun t428 => ((manifest_Right.f k (([(⟨1,2,0,([] : List Int),([] : List Int),([] : List ByteArray)⟩ : S37)] : List (S37)))).bind fun t432 => ((manifest_Write.f k t375).bind fun t433 => ((manifest_Recover.f k t433).bind fun bt436 => (if t420 = 7 then (if t428 = 8 then (if t432 = 1 then ((codesearchref33_SameAll.f k bt436.1 t375).bind fun t440 => (if t440 = true then ((manifest_Write.f k t375).bind fun t441 => (if bt436.2 = (t441.length : Int) then (some (decide (bt436.2 > 0))) else (none))) else (none))) else (none)) else (none)) else (none))))))) = some r := by first|(rw [hy417];with_reducible exact H)|(have H2_ := (Option.bind_some _ _).symm.trans H;rw [hy417];with_reducible exact H2_)|(have H2_ := (Option.bind_some _ _).symm.trans H;with_reducible exact H2_)|with_reducible exact H|(rw [hy417];exact H)|exact H
  have Ny417 := aK hy417
  clear hy417
  replace H := Option.bind_eq_some_iff.mp H
  obtain ⟨t420,A200,H⟩ := H
  have A20 := aK A200
  clear A200
  obtain ⟨y422,hy422⟩ : ∃ y_ : List Int,y_ = (([4] : List Int)) := ⟨_,rfl⟩
  replace H : ((manifest_Right.f k (([(⟨(rd_T37 t375 0).f0,(rd_T37 t375 0).f1,(rd_T37 t375 0).f2,(rd_T37 t375 0).f3,(rd_T37 t375 0).f4,(rd_T37 t375 0).f5⟩ : S37),(⟨2,3,2,([] : List Int),y422,([] : List ByteArray)⟩ : S37)] : List (S37)))).bind fun t428 => ((manifest_Right.f k (([(⟨1,2,0,([] : List Int),([] : List Int),([] : List ByteArray)⟩ : S37)] : List (S37)))).bind fun t432 => ((manifest_Write.f k t375).bind fun t433 => ((manifest_Recover.f k t433).bind fun bt436 => (if t420 = 7 then (if t428 = 8 then (if t432 = 1 then ((codesearchref33_SameAll.f k bt436.1 t375).bind fun t440 => (if t440 = true then ((manifest_Write.f k t375).bind fun t441 => (if bt436.2 = (t441.length : Int) then (some (decide (bt436.2 > 0))) else (none))) else (none))) else (none)) else (none)) else (none)))))) = some r := by first|(rw [hy422];with_reducible exact H)|(have H2_ := (Option.bind_some _ _).symm.trans H;rw [hy422];with_reducible exact H2_)|(have H2_ := (Option.bind_some _ _).symm.trans H;with_reducible exact H2_)|with_reducible exact H|(rw [hy422];exact H)|exact H
  have Ny422 := aK hy422
  clear hy422
  obtain ⟨y425,hy425⟩ : ∃ y_ : List (S37),y_ = (([(⟨(rd_T37 t375 0).f0,(rd_T37 t375 0).f1,(rd_T37 t375 0).f2,(rd_T37 t375 0).f3,(rd_T37 t375 0).f4,(rd_T37 t375 0).f5⟩ : S37),(⟨2,3,2,([] : List Int),y422,([] : List ByteArray)⟩ : S37)] : List (S37))) := ⟨_,rfl⟩
  replace H : ((manifest_Right.f k y425).bind fun t428 => ((manifest_Right.f k (([(⟨1,2,0,([] : List Int),([] : List Int),([] : List ByteArray)⟩ : S37)] : List (S37)))).bind fun t432 => ((manifest_Write.f k t375).bind fun t433 => ((manifest_Recover.f k t433).bind fun bt436 => (if t420 = 7 then (if t428 = 8 then (if t432 = 1 then ((codesearchref33_SameAll.f k bt436.1 t375).bind fun t440 => (if t440 = true then ((manifest_Write.f k t375).bind fun t441 => (if bt436.2 = (t441.length : Int) then (some (decide (bt436.2 > 0))) else (none))) else (none))) else (none)) else (none)) else (none)))))) = some r := by first|(rw [hy425];with_reducible exact H)|(have H2_ := (Option.bind_some _ _).symm.trans H;rw [hy425];with_reducible exact H2_)|(have H2_ := (Option.bind_some _ _).symm.trans H;with_reducible exact H2_)|with_reducible exact H|(rw [hy425];exact H)|exact H
  have Ny425 := aK hy425
  clear hy425
  replace H := Option.bind_eq_some_iff.mp H
  obtain ⟨t428,A210,H⟩ := H
  have A21 := aK A210
  clear A210
  obtain ⟨y429,hy429⟩ : ∃ y_ : List (S37),y_ = (([(⟨1,2,0,([] : List Int),([] : List Int),([] : List ByteArray)⟩ : S37)] : List (S37))) := ⟨_,rfl⟩
  replace H : ((manifest_Right.f k y429).bind fun t432 => ((manifest_Write.f k t375).bind fun t433 => ((manifest_Recover.f k t433).bind fun bt436 => (if t420 = 7 then (if t428 = 8 then (if t432 = 1 then ((codesearchref33_SameAll.f k bt436.1 t375).bind fun t440 => (if t440 = true then ((manifest_Write.f k t375).bind fun t441 => (if bt436.2 = (t441.length : Int) then (some (decide (bt436.2 > 0))) else (none))) else (none))) else (none)) else (none)) else (none))))) = some r := by first|(rw [hy429];with_reducible exact H)|(have H2_ := (Option.bind_some _ _).symm.trans H;rw [hy429];with_reducible exact H2_)|(have H2_ := (Option.bind_some _ _).symm.trans H;with_reducible exact H2_)|with_reducible exact H|(rw [hy429];exact H)|exact H
  have Ny429 := aK hy429
  clear hy429
  replace H := Option.bind_eq_some_iff.mp H
  obtain ⟨t432,A220,H⟩ := H
  have A22 := aK A220
  clear A220
  replace H := Option.bind_eq_some_iff.mp H
  obtain ⟨t433,A230,H⟩ := H
  have A23 := aK A230
  clear A230
  replace H := Option.bind_eq_some_iff.mp H
  obtain ⟨⟨t436,t437⟩,A240,H⟩ := H
  replace H : (if t420 = 7 then (if t428 = 8 then (if t432 = 1 then ((codesearchref33_SameAll.f k t436 t375).bind fun t440 => (if t440 = true then ((manifest_Write.f k t375).bind fun t441 => (if t437 = (t441.length : Int) then (some (decide (t437 > 0))) else (none))) else (none))) else (none)) else (none)) else (none)) = some r := H
  have A24 := aK A240
  clear A240
  obtain ⟨c25,H⟩ := iS H
  have c25b0 := beq_iff_eq.mpr c25
  have c25b1 := bne_eq_false_iff_eq.mpr c25
  clear c25
  obtain ⟨c26,H⟩ := iS H
  have c26b0 := beq_iff_eq.mpr c26
  have c26b1 := bne_eq_false_iff_eq.mpr c26
  clear c26
  obtain ⟨c27,H⟩ := iS H
  have c27b0 := beq_iff_eq.mpr c27
  have c27b1 := bne_eq_false_iff_eq.mpr c27
  clear c27
  replace H := Option.bind_eq_some_iff.mp H
  obtain ⟨t440,A280,H⟩ := H
  have A28 := aK A280
  clear A280
  obtain ⟨c29,H⟩ := iS H
  subst c29
  replace H := Option.bind_eq_some_iff.mp H
  obtain ⟨t441,A300,H⟩ := H
  have A30 := aK A300
  clear A300
  obtain ⟨c31,H⟩ := iS H
  have c31b0 := beq_iff_eq.mpr c31
  have c31b1 := bne_eq_false_iff_eq.mpr c31
  clear c31
  obtain rfl := Option.some.inj H
  go_enter Tryd.func7,Tryd.ntmps7
  go_wp2_with (first|((with_reducible refine gate_callee (f := 22) rfl ?_);refine goesL_ (some 7) rfl rfl Tryd.func22 (by kernel_rfl) rfl #[] rfl (by (try simp only [List.map_toArray,List.map_cons,List.map_nil]);first|done|rfl|(simp only [List.length_drop,List.length_take];rfl)) ?_;(with_reducible refine (codesearchlaw33_example.calls  t375 _ A1.out).mono ?_);rintro e w32 ⟨v376,rfl,ho0,hb⟩;refine ⟨_,rfl,?_⟩;have HO377 := aK (Kd.N_lower (Kd.N_mono (ok' := fun k_ => True) ho0 (fun k_ hk_ => trivial)) (below_size (bM HB.out)));replace HB := aK (below_step (bM HB.out) hb);(try clear hb);(try clear hk);(try clear ho0);obtain ⟨Ao33,co33,eo33⟩ := Kd.N_slice HO377.out;subst eo33)|((with_reducible refine gate_callee (f := 21) rfl ?_);refine goesL_ (some 9) rfl rfl Tryd.func21 (by kernel_rfl) rfl #[.slice Ao33 t375.length co33] rfl (by (try simp only [List.map_toArray,List.map_cons,List.map_nil]);first|done|rfl|(simp only [List.length_drop,List.length_take];rfl)) ?_;(with_reducible refine (manifest_Right.calls k _ _ t375 t378 _ ?side1 ?side2 A2.out).mono ?_);(case side1 => exact cM (Kd.N_reads' HO377.out).2.2);(case side2 => exact (Kd.N_reads' HO377.out).2.1);rintro e w34 ⟨rfl,hb⟩;refine ⟨_,rfl,?_⟩;replace HO377 := aK (Kd.N_below (nM HO377.out) hb);replace HB := aK (below_step (bM HB.out) hb);(try clear hb);(try clear hk);have q35 : (3 : Int) ≤ ((t375.length : Int) : Int) := of_decide_eq_true (by assumption);obtain ⟨i035,hi035,_,hsz35,_⟩ := info_parts info37;have hroom35 : t375.length ≤ co33 := (Kd.N_reads' HO377.out).2.1;have hC35 : Kd.F k37 _ _ Ao33 t375.length t375 := (Kd.V_at (base := w.heap.size) (Kd.N_V HO377.out)).2.2;have hcut35 := cut_to (P := Tryd.prog) 22 37 .i64 Tryd.underlying22 hi035 Ao33 t375.length co33 3 (by omega) q35 hroom35;have hr35 := Kd.F_take (m := 3) hC35 (by omega);have hy35 : y379.length = (3 : Int).toNat := (by rw [Ny379.out,List.length_take];omega);rw [← Ny379.out] at hr35;rw [← hy35] at hcut35;have HO383 := aK (show Kd.V k37 37 _ w.heap.size _ (.slice Ao33 y379.length co33) y379 from Kd.V_mk (by omega) hr35);have HC383 := aK (show y379.length ≤ co33 from by omega);clear hr35 hC35 hroom35 hi035 hsz35;have KY35 := aK hy35;clear hy35;replace q35 := eq_true q35)|(go_at_call 10;(with_reducible refine (manifest_Live.calls k _ _ y379 t384 _ ?side1 ?side2 A5.out).mono ?_);(case side1 => exact cM (Kd.V_reads' HO383.out).2.2);(case side2 => exact (Kd.V_reads' HO383.out).2.1);rintro e w36 ⟨v385,rfl,ho0,hb⟩;replace HO377 := aK (Kd.N_elder' (nM HO377.out) (Kd.R_base ho0) hb);have HO386 := aK (Kd.R_lower ho0 (below_size (bM HB.out)));replace HB := aK (below_step (bM HB.out) hb);(try clear hb);(try clear hk);(try clear ho0))|((with_reducible refine gate_dst (N := 15) rfl ?_);(try (refine gate_guard (by rfl) ?_;dsimp only));refine Kd.R_lit (Kd.int .i64) _ 3 ?hg (N := 15) ?hd (xs := ([1,2] : List Int)) (inner := [.int .i64 1,.int .i64 2]) (ok := fun _ => True) (okp := fun _ => True) ?hr ?hp (fun _ hk => hk) trivial (Below.refl _ _) (Nat.le_refl _) (by simp) ?_;(case hd => rfl);(case hg => rfl);(case hr => first|(go_simp;done)|(go_simp;rfl));(case hp => exact (Reps.one (show Kd.M (Kd.int .i64) _ _ _ 1 [.int .i64 1] from rfl) (Reps.one (show Kd.M (Kd.int .i64) _ _ _ 2 [.int .i64 2] from rfl) (Reps.none _ _))));intro v388 w37 ho38 hb hg_ hnew_;clear hg_ hnew_;(first|rw [← Ny387.out] at ho38|(simp only [Int.reduceToNat] at ho38;rw [← Ny387.out] at ho38));replace HO377 := aK (Kd.N_elder' (nM HO377.out) (Kd.R_base ho38) hb);have HO389 := aK (Kd.R_lower (Kd.R_new' ho38 (Kd.R_lt (rM HO386.out))) (below_size (bM HB.out)));replace HO386 := aK (Kd.R_elder' (rM HO386.out) (Kd.R_base ho38) hb);replace HB := aK (below_step (bM HB.out) hb);clear hb ho38;obtain ⟨Ao39,co39,eo39⟩ := Kd.R_slice HO386.out;subst eo39;obtain ⟨Ao40,co40,eo40⟩ := Kd.R_slice HO389.out;subst eo40)|(go_at_call 9;(with_reducible refine (codesearchref33_SameInts.calls k _ _ t384 _ _ y387 true _ ?side1 ?side2 ?side3 ?side4 A6.out).mono ?_);(case side1 => exact cM (Kd.R_reads' HO386.out).2.2);(case side2 => exact (Kd.R_reads' HO386.out).2.1);(case side3 => exact cM (Kd.R_reads' HO389.out).2.2);(case side4 => exact (Kd.R_reads' HO389.out).2.1);rintro e w' ⟨rfl,⟨nd,rfl⟩⟩;have q41 : (3 : Int) ≤ ((t375.length : Int) : Int) := of_decide_eq_true (by assumption);obtain ⟨i041,hi041,_,hsz41,_⟩ := info_parts info37;have hroom41 : t375.length ≤ co33 := (Kd.N_reads' HO377.out).2.1;have hC41 : Kd.F k37 _ _ Ao33 t375.length t375 := (Kd.V_at (base := w.heap.size) (Kd.N_V HO377.out)).2.2;(try clear hcut35);have hcut41 := cut_to (P := Tryd.prog) 22 37 .i64 Tryd.underlying22 hi041 Ao33 t375.length co33 3 (by omega) q41 hroom41;have hr41 := Kd.F_take (m := 3) hC41 (by omega);have hy41 : y391.length = (3 : Int).toNat := (by rw [Ny391.out,List.length_take];omega);rw [← Ny391.out] at hr41;rw [← hy41] at hcut41;have HO395 := aK (show Kd.V k37 37 _ w.heap.size _ (.slice Ao33 y391.length co33) y391 from Kd.V_mk (by omega) hr41);have HC395 := aK (show y391.length ≤ co33 from by omega);clear hr41 hC41 hroom41 hi041 hsz41;have KY41 := aK hy41;clear hy41;replace q41 := eq_true q41)|(go_at_call 12;(with_reducible refine (manifest_Dead.calls k _ _ y391 t396 _ ?side1 ?side2 A9.out).mono ?_);(case side1 => exact cM (Kd.V_reads' HO395.out).2.2);(case side2 => exact (Kd.V_reads' HO395.out).2.1);rintro e w42 ⟨v397,rfl,ho0,hb⟩;replace HO377 := aK (Kd.N_elder' (nM HO377.out) (Kd.R_base ho0) hb);have HO398 := aK (Kd.R_lower (Kd.R_new' (Kd.R_new' ho0 (Kd.R_lt (rM HO386.out))) (Kd.R_lt (rM HO389.out))) (below_size (bM HB.out)));replace HO386 := aK (Kd.R_elder' (rM HO386.out) (Kd.R_base ho0) hb);replace HO389 := aK (Kd.R_elder' (rM HO389.out) (Kd.R_base ho0) hb);replace HB := aK (below_step (bM HB.out) hb);(try clear hb);(try clear hk);(try clear ho0))|((with_reducible refine gate_dst (N := 23) rfl ?_);(try (refine gate_guard (by rfl) ?_;dsimp only));refine Kd.R_lit (Kd.int .i64) _ 3 ?hg (N := 23) ?hd (xs := ([7,9] : List Int)) (inner := [.int .i64 7,.int .i64 9]) (ok := fun _ => True) (okp := fun _ => True) ?hr ?hp (fun _ hk => hk) trivial (Below.refl _ _) (Nat.le_refl _) (by simp) ?_;(case hd => rfl);(case hg => rfl);(case hr => first|(go_simp;done)|(go_simp;rfl));(case hp => exact (Reps.one (show Kd.M (Kd.int .i64) _ _ _ 7 [.int .i64 7] from rfl) (Reps.one (show Kd.M (Kd.int .i64) _ _ _ 9 [.int .i64 9] from rfl) (Reps.none _ _))));intro v400 w43 ho44 hb hg_ hnew_;clear hg_ hnew_;(first|rw [← Ny399.out] at ho44|(simp only [Int.reduceToNat] at ho44;rw [← Ny399.out] at ho44));replace HO377 := aK (Kd.N_elder' (nM HO377.out) (Kd.R_base ho44) hb);have HO401 := aK (Kd.R_lower (Kd.R_new' (Kd.R_new' (Kd.R_new' ho44 (Kd.R_lt (rM HO386.out))) (Kd.R_lt (rM HO389.out))) (Kd.R_lt (rM HO398.out))) (below_size (bM HB.out)));replace HO386 := aK (Kd.R_elder' (rM HO386.out) (Kd.R_base ho44) hb);replace HO389 := aK (Kd.R_elder' (rM HO389.out) (Kd.R_base ho44) hb);replace HO398 := aK (Kd.R_elder' (rM HO398.out) (Kd.R_base ho44) hb);replace HB := aK (below_step (bM HB.out) hb);clear hb ho44;obtain ⟨Ao45,co45,eo45⟩ := Kd.R_slice HO398.out;subst eo45;obtain ⟨Ao46,co46,eo46⟩ := Kd.R_slice HO401.out;subst eo46)|(go_at_call 9;(with_reducible refine (codesearchref33_SameInts.calls k _ _ t396 _ _ y399 true _ ?side1 ?side2 ?side3 ?side4 A10.out).mono ?_);(case side1 => exact cM (Kd.R_reads' HO398.out).2.2);(case side2 => exact (Kd.R_reads' HO398.out).2.1);(case side3 => exact cM (Kd.R_reads' HO401.out).2.2);(case side4 => exact (Kd.R_reads' HO401.out).2.1);rintro e w' ⟨rfl,⟨nd,rfl⟩⟩)|(go_at_call 10;(with_reducible refine (manifest_Live.calls k _ _ t375 t403 _ ?side1 ?side2 A12.out).mono ?_);(case side1 => exact cM (Kd.N_reads' HO377.out).2.2);(case side2 => exact (Kd.N_reads' HO377.out).2.1);rintro e w47 ⟨v404,rfl,ho0,hb⟩;replace HO377 := aK (Kd.N_elder' (nM HO377.out) (Kd.R_base ho0) hb);have HO405 := aK (Kd.R_lower (Kd.R_new' (Kd.R_new' (Kd.R_new' (Kd.R_new' ho0 (Kd.R_lt (rM HO386.out))) (Kd.R_lt (rM HO389.out))) (Kd.R_lt (rM HO398.out))) (Kd.R_lt (rM HO401.out))) (below_size (bM HB.out)));replace HO386 := aK (Kd.R_elder' (rM HO386.out) (Kd.R_base ho0) hb);replace HO389 := aK (Kd.R_elder' (rM HO389.out) (Kd.R_base ho0) hb);replace HO398 := aK (Kd.R_elder' (rM HO398.out) (Kd.R_base ho0) hb);replace HO401 := aK (Kd.R_elder' (rM HO401.out) (Kd.R_base ho0) hb);replace HB := aK (below_step (bM HB.out) hb);(try clear hb);(try clear hk);(try clear ho0))|((with_reducible refine gate_dst (N := 30) rfl ?_);(try (refine gate_guard (by rfl) ?_;dsimp only));refine Kd.R_lit (Kd.int .i64) _ 3 ?hg (N := 30) ?hd (xs := ([3] : List Int)) (inner := [.int .i64 3]) (ok := fun _ => True) (okp := fun _ => True) ?hr ?hp (fun _ hk => hk) trivial (Below.refl _ _) (Nat.le_refl _) (by simp) ?_;(case hd => rfl);(case hg => rfl);(case hr => first|(go_simp;done)|(go_simp;rfl));(case hp => exact (Reps.one (show Kd.M (Kd.int .i64) _ _ _ 3 [.int .i64 3] from rfl) (Reps.none _ _)));intro v407 w48 ho49 hb hg_ hnew_;clear hg_ hnew_;(first|rw [← Ny406.out] at ho49|(simp only [Int.reduceToNat] at ho49;rw [← Ny406.out] at ho49));replace HO377 := aK (Kd.N_elder' (nM HO377.out) (Kd.R_base ho49) hb);have HO408 := aK (Kd.R_lower (Kd.R_new' (Kd.R_new' (Kd.R_new' (Kd.R_new' (Kd.R_new' ho49 (Kd.R_lt (rM HO386.out))) (Kd.R_lt (rM HO389.out))) (Kd.R_lt (rM HO398.out))) (Kd.R_lt (rM HO401.out))) (Kd.R_lt (rM HO405.out))) (below_size (bM HB.out)));replace HO386 := aK (Kd.R_elder' (rM HO386.out) (Kd.R_base ho49) hb);replace HO389 := aK (Kd.R_elder' (rM HO389.out) (Kd.R_base ho49) hb);replace HO398 := aK (Kd.R_elder' (rM HO398.out) (Kd.R_base ho49) hb);replace HO401 := aK (Kd.R_elder' (rM HO401.out) (Kd.R_base ho49) hb);replace HO405 := aK (Kd.R_elder' (rM HO405.out) (Kd.R_base ho49) hb);replace HB := aK (below_step (bM HB.out) hb);clear hb ho49;obtain ⟨Ao50,co50,eo50⟩ := Kd.R_slice HO405.out;subst eo50;obtain ⟨Ao51,co51,eo51⟩ := Kd.R_slice HO408.out;subst eo51)|(go_at_call 9;(with_reducible refine (codesearchref33_SameInts.calls k _ _ t403 _ _ y406 true _ ?side1 ?side2 ?side3 ?side4 A13.out).mono ?_);(case side1 => exact cM (Kd.R_reads' HO405.out).2.2);(case side2 => exact (Kd.R_reads' HO405.out).2.1);(case side3 => exact cM (Kd.R_reads' HO408.out).2.2);(case side4 => exact (Kd.R_reads' HO408.out).2.1);rintro e w' ⟨rfl,⟨nd,rfl⟩⟩)|(go_at_call 12;(with_reducible refine (manifest_Dead.calls k _ _ t375 t410 _ ?side1 ?side2 A15.out).mono ?_);(case side1 => exact cM (Kd.N_reads' HO377.out).2.2);(case side2 => exact (Kd.N_reads' HO377.out).2.1);rintro e w52 ⟨v411,rfl,ho0,hb⟩;replace HO377 := aK (Kd.N_elder' (nM HO377.out) (Kd.R_base ho0) hb);have HO412 := aK (Kd.R_lower (Kd.R_new' (Kd.R_new' (Kd.R_new' (Kd.R_new' (Kd.R_new' (Kd.R_new' ho0 (Kd.R_lt (rM HO386.out))) (Kd.R_lt (rM HO389.out))) (Kd.R_lt (rM HO398.out))) (Kd.R_lt (rM HO401.out))) (Kd.R_lt (rM HO405.out))) (Kd.R_lt (rM HO408.out))) (below_size (bM HB.out)));replace HO386 := aK (Kd.R_elder' (rM HO386.out) (Kd.R_base ho0) hb);replace HO389 := aK (Kd.R_elder' (rM HO389.out) (Kd.R_base ho0) hb);replace HO398 := aK (Kd.R_elder' (rM HO398.out) (Kd.R_base ho0) hb);replace HO401 := aK (Kd.R_elder' (rM HO401.out) (Kd.R_base ho0) hb);replace HO405 := aK (Kd.R_elder' (rM HO405.out) (Kd.R_base ho0) hb);replace HO408 := aK (Kd.R_elder' (rM HO408.out) (Kd.R_base ho0) hb);replace HB := aK (below_step (bM HB.out) hb);(try clear hb);(try clear hk);(try clear ho0);obtain ⟨Ao53,co53,eo53⟩ := Kd.R_slice HO412.out;subst eo53)|(go_at_call 19;refine calls_of_args (args' := #[.agg #[.int .i64 1,.int .i64 1,.int .i64 5,.slice none ([] : List Int).length 0,.slice none ([] : List Int).length 0,.slice none ([] : List ByteArray).length 0]]) (by first|with_reducible rfl|(simp only [List.length_nil];done)|(simp only [List.length_nil];with_reducible rfl)) ?_;(with_reducible refine (manifest_Encode.calls k 1 1 5 _ _ ([] : List Int) _ _ ([] : List Int) _ _ ([] : List ByteArray) t413 _ ?side1 ?side2 ?side3 ?side4 ?side5 ?side6 A17.out).mono ?_);(case side1 => exact Kd.C_nil _ _);(case side2 => exact Nat.le_refl _);(case side3 => exact Kd.C_nil _ _);(case side4 => exact Nat.le_refl _);(case side5 => exact Kd.C_nil _ _);(case side6 => exact Nat.le_refl _);rintro e w54 ⟨v414,rfl,ho0,hb⟩;replace HO377 := aK (Kd.N_elder' (nM HO377.out) (Kd.R_base ho0) hb);replace HO386 := aK (Kd.R_below (rM HO386.out) hb);replace HO389 := aK (Kd.R_below (rM HO389.out) hb);replace HO398 := aK (Kd.R_below (rM HO398.out) hb);replace HO401 := aK (Kd.R_below (rM HO401.out) hb);replace HO405 := aK (Kd.R_below (rM HO405.out) hb);replace HO408 := aK (Kd.R_below (rM HO408.out) hb);replace HO412 := aK (Kd.R_below (rM HO412.out) hb);have HO415 := aK (Kd.R_lower ho0 (below_size (bM HB.out)));replace HB := aK (below_step (bM HB.out) hb);(try clear hb);(try clear hk);(try clear ho0);have hcv55 := own_string (P := Tryd.prog) Tryd.underlying29 Tryd.underlying5 Tryd.underlying9 (Kd.own_of_R HO415.out);have p416 : 0 ≤ (0 : Int) := (by omega);have q416 : 0 < (t375.length : Int) := of_decide_eq_true (by assumption);obtain ⟨ad416,A416_3,c416_3,A416_4,c416_4,A416_5,c416_5,e416,hx416_0,hx416_1,hx416_2,hx416_3,hx416_4,hx416_5,hl416_3,hi416_3,hl416_4,hi416_4,hl416_5,hi416_5⟩ := at_T37 (Kd.N_reads' HO377.out).2.2 0 p416 q416;cases e416;obtain ⟨ce416,hce416,hMe416,hcc416⟩ := Kd.N_get HO377.out z37 0 p416 (by first|exact q416|exact of_decide_eq_true (by assumption)|(have e_ := (Kd.N_reads' HO377.out).1;omega));obtain ⟨ua416_3,uc416_3,ua416_4,uc416_4,ua416_5,uc416_5,rfl,ul416_3,ge416_3,ul416_4,ge416_4,ul416_5,ge416_5⟩ := k37_openF hMe416;have hv416_3 := hcc416 3 _ rfl;rw [add_field _ _ 3 (by omega)] at hv416_3;replace hv416_3 := Option.some.inj (hv416_3.symm.trans hx416_3);injection hv416_3 with hva_ hvn_ hvc_;rw [hva_] at ge416_3;rw [hvc_] at ul416_3;have HL416_3 := aK (show Kd.V (Kd.int .i64) 3 _ w.heap.size _ _ ((rd_T37 t375 0).f3) from Kd.V_mk ul416_3 ge416_3);clear hva_ hvn_ hvc_ ge416_3 ul416_3;have hv416_4 := hcc416 4 _ rfl;rw [add_field _ _ 4 (by omega)] at hv416_4;replace hv416_4 := Option.some.inj (hv416_4.symm.trans hx416_4);injection hv416_4 with hva_ hvn_ hvc_;rw [hva_] at ge416_4;rw [hvc_] at ul416_4;have HL416_4 := aK (show Kd.V (Kd.int .i64) 3 _ w.heap.size _ _ ((rd_T37 t375 0).f4) from Kd.V_mk ul416_4 ge416_4);clear hva_ hvn_ hvc_ ge416_4 ul416_4;have hv416_5 := hcc416 5 _ rfl;rw [add_field _ _ 5 (by omega)] at hv416_5;replace hv416_5 := Option.some.inj (hv416_5.symm.trans hx416_5);injection hv416_5 with hva_ hvn_ hvc_;rw [hva_] at ge416_5;rw [hvc_] at ul416_5;have HL416_5 := aK (show Kd.V Kd.string 9 _ w.heap.size _ _ ((rd_T37 t375 0).f5) from Kd.V_mk ul416_5 ge416_5);clear hva_ hvn_ hvc_ ge416_5 ul416_5;clear hcc416 hce416;have qi416 : (0 < t375.length) = True := eq_true (by omega);(try rw [show ((0 : Int)).toNat = 0 from rfl] at hx416_0);(try rw [show 0 * 6 = 0 from rfl] at hx416_0);(try rw [Addr.add_zero'] at hx416_0);(try rw [show ((0 : Int)).toNat = 0 from rfl] at hx416_1);(try rw [show 0 * 6 = 0 from rfl] at hx416_1);(try rw [Addr.add_zero'] at hx416_1);(try rw [show ((0 : Int)).toNat = 0 from rfl] at hx416_2);(try rw [show 0 * 6 = 0 from rfl] at hx416_2);(try rw [Addr.add_zero'] at hx416_2);(try rw [show ((0 : Int)).toNat = 0 from rfl] at hx416_3);(try rw [show 0 * 6 = 0 from rfl] at hx416_3);(try rw [Addr.add_zero'] at hx416_3);(try rw [show ((0 : Int)).toNat = 0 from rfl] at hx416_4);(try rw [show 0 * 6 = 0 from rfl] at hx416_4);(try rw [Addr.add_zero'] at hx416_4);(try rw [show ((0 : Int)).toNat = 0 from rfl] at hx416_5);(try rw [show 0 * 6 = 0 from rfl] at hx416_5);(try rw [Addr.add_zero'] at hx416_5);have HR416_3 := aK hi416_3;have HC416_3 := aK hl416_3;clear hi416_3 hl416_3;have HR416_4 := aK hi416_4;have HC416_4 := aK hl416_4;clear hi416_4 hl416_4;have HR416_5 := aK hi416_5;have HC416_5 := aK hl416_5;clear hi416_5 hl416_5;replace p416 := eq_true p416;replace q416 := eq_true q416)|((with_reducible refine gate_dst (N := 48) rfl ?_);(try (refine gate_guard (by rfl) ?_;dsimp only));refine Kd.N_lit k37 _ 37 ?hg (N' := 48) ?hd (xs := ([(⟨(rd_T37 t375 0).f0,(rd_T37 t375 0).f1,(rd_T37 t375 0).f2,(rd_T37 t375 0).f3,(rd_T37 t375 0).f4,(rd_T37 t375 0).f5⟩ : S37),(⟨2,1,1,([] : List Int),([] : List Int),([] : List ByteArray)⟩ : S37)] : List (S37))) (inner := [.int .i64 ((rd_T37 t375 0).f0),.int .i64 ((rd_T37 t375 0).f1),.int .i64 ((rd_T37 t375 0).f2),.slice A416_3 ((rd_T37 t375 0).f3).length c416_3,.slice A416_4 ((rd_T37 t375 0).f4).length c416_4,.slice A416_5 ((rd_T37 t375 0).f5).length c416_5,.int .i64 2,.int .i64 1,.int .i64 1,.slice none 0 0,.slice none 0 0,.slice none 0 0]) (ok := (fun k_ => some k_ ≠ (.slice (some ad416) t375.length co33 : Value).ownBlock ∧ some k_ ≠ (.slice Ao39 t384.length co39 : Value).ownBlock ∧ some k_ ≠ (.slice Ao40 y387.length co40 : Value).ownBlock ∧ some k_ ≠ (.slice Ao45 t396.length co45 : Value).ownBlock ∧ some k_ ≠ (.slice Ao46 y399.length co46 : Value).ownBlock ∧ some k_ ≠ (.slice Ao50 t403.length co50 : Value).ownBlock ∧ some k_ ≠ (.slice Ao51 y406.length co51 : Value).ownBlock ∧ some k_ ≠ (.slice Ao53 t410.length co53 : Value).ownBlock ∧ some k_ ≠ (v414 : Value).ownBlock)) (okp := (fun k_ => some k_ ≠ (.slice (some ad416) t375.length co33 : Value).ownBlock ∧ some k_ ≠ (.slice Ao39 t384.length co39 : Value).ownBlock ∧ some k_ ≠ (.slice Ao40 y387.length co40 : Value).ownBlock ∧ some k_ ≠ (.slice Ao45 t396.length co45 : Value).ownBlock ∧ some k_ ≠ (.slice Ao46 y399.length co46 : Value).ownBlock ∧ some k_ ≠ (.slice Ao50 t403.length co50 : Value).ownBlock ∧ some k_ ≠ (.slice Ao51 y406.length co51 : Value).ownBlock ∧ some k_ ≠ (.slice Ao53 t410.length co53 : Value).ownBlock ∧ some k_ ≠ (v414 : Value).ownBlock)) ?hr ?hp (fun _ hk => hk) ((show ∀ k_,w54.heap.size ≤ k_ → (fun k_ => some k_ ≠ (.slice (some ad416) t375.length co33 : Value).ownBlock ∧ some k_ ≠ (.slice Ao39 t384.length co39 : Value).ownBlock ∧ some k_ ≠ (.slice Ao40 y387.length co40 : Value).ownBlock ∧ some k_ ≠ (.slice Ao45 t396.length co45 : Value).ownBlock ∧ some k_ ≠ (.slice Ao46 y399.length co46 : Value).ownBlock ∧ some k_ ≠ (.slice Ao50 t403.length co50 : Value).ownBlock ∧ some k_ ≠ (.slice Ao51 y406.length co51 : Value).ownBlock ∧ some k_ ≠ (.slice Ao53 t410.length co53 : Value).ownBlock ∧ some k_ ≠ (v414 : Value).ownBlock) k_ from fun k_ hk => ⟨Kd.fresh' (Kd.N_lt (nM HO377.out)) k_ hk,Kd.fresh' (Kd.R_lt (rM HO386.out)) k_ hk,Kd.fresh' (Kd.R_lt (rM HO389.out)) k_ hk,Kd.fresh' (Kd.R_lt (rM HO398.out)) k_ hk,Kd.fresh' (Kd.R_lt (rM HO401.out)) k_ hk,Kd.fresh' (Kd.R_lt (rM HO405.out)) k_ hk,Kd.fresh' (Kd.R_lt (rM HO408.out)) k_ hk,Kd.fresh' (Kd.R_lt (rM HO412.out)) k_ hk,Kd.fresh' (Kd.R_lt (rM HO415.out)) k_ hk⟩) _ (Nat.le_refl _)) (Below.refl _ _) (Nat.le_refl _) (by simp) ?_;(case hd => rfl);(case hg => rfl);(case hr => first|(go_simp;done)|(go_simp;rfl));(case hp => exact (Reps.c6 (show Kd.FK k37 _ _ (⟨(rd_T37 t375 0).f0,(rd_T37 t375 0).f1,(rd_T37 t375 0).f2,(rd_T37 t375 0).f3,(rd_T37 t375 0).f4,(rd_T37 t375 0).f5⟩ : S37) [.int .i64 ((rd_T37 t375 0).f0),.int .i64 ((rd_T37 t375 0).f1),.int .i64 ((rd_T37 t375 0).f2),.slice A416_3 ((rd_T37 t375 0).f3).length c416_3,.slice A416_4 ((rd_T37 t375 0).f4).length c416_4,.slice A416_5 ((rd_T37 t375 0).f5).length c416_5] from (k37_mkF _ _ (⟨(rd_T37 t375 0).f0,(rd_T37 t375 0).f1,(rd_T37 t375 0).f2,(rd_T37 t375 0).f3,(rd_T37 t375 0).f4,(rd_T37 t375 0).f5⟩ : S37) (Kd.V_reads' (Kd.V_mono (ok' := (fun k_ => some k_ ≠ (.slice (some ad416) t375.length co33 : Value).ownBlock ∧ some k_ ≠ (.slice Ao39 t384.length co39 : Value).ownBlock ∧ some k_ ≠ (.slice Ao40 y387.length co40 : Value).ownBlock ∧ some k_ ≠ (.slice Ao45 t396.length co45 : Value).ownBlock ∧ some k_ ≠ (.slice Ao46 y399.length co46 : Value).ownBlock ∧ some k_ ≠ (.slice Ao50 t403.length co50 : Value).ownBlock ∧ some k_ ≠ (.slice Ao51 y406.length co51 : Value).ownBlock ∧ some k_ ≠ (.slice Ao53 t410.length co53 : Value).ownBlock ∧ some k_ ≠ (v414 : Value).ownBlock)) (HL416_3.out) (fun k_ hk => ⟨hk.2,⟨hk.1.1.1.1.1.1.1.1.2,⟨hk.1.1.1.1.1.1.1.2,⟨hk.1.1.1.1.1.1.2,⟨hk.1.1.1.1.1.2,⟨hk.1.1.1.1.2,⟨hk.1.1.1.2,⟨hk.1.1.2,hk.1.2⟩⟩⟩⟩⟩⟩⟩⟩))).2.1 (Kd.V_F (Kd.V_mono (ok' := (fun k_ => some k_ ≠ (.slice (some ad416) t375.length co33 : Value).ownBlock ∧ some k_ ≠ (.slice Ao39 t384.length co39 : Value).ownBlock ∧ some k_ ≠ (.slice Ao40 y387.length co40 : Value).ownBlock ∧ some k_ ≠ (.slice Ao45 t396.length co45 : Value).ownBlock ∧ some k_ ≠ (.slice Ao46 y399.length co46 : Value).ownBlock ∧ some k_ ≠ (.slice Ao50 t403.length co50 : Value).ownBlock ∧ some k_ ≠ (.slice Ao51 y406.length co51 : Value).ownBlock ∧ some k_ ≠ (.slice Ao53 t410.length co53 : Value).ownBlock ∧ some k_ ≠ (v414 : Value).ownBlock)) (HL416_3.out) (fun k_ hk => ⟨hk.2,⟨hk.1.1.1.1.1.1.1.1.2,⟨hk.1.1.1.1.1.1.1.2,⟨hk.1.1.1.1.1.1.2,⟨hk.1.1.1.1.1.2,⟨hk.1.1.1.1.2,⟨hk.1.1.1.2,⟨hk.1.1.2,hk.1.2⟩⟩⟩⟩⟩⟩⟩⟩))) (Kd.V_reads' (Kd.V_mono (ok' := (fun k_ => some k_ ≠ (.slice (some ad416) t375.length co33 : Value).ownBlock ∧ some k_ ≠ (.slice Ao39 t384.length co39 : Value).ownBlock ∧ some k_ ≠ (.slice Ao40 y387.length co40 : Value).ownBlock ∧ some k_ ≠ (.slice Ao45 t396.length co45 : Value).ownBlock ∧ some k_ ≠ (.slice Ao46 y399.length co46 : Value).ownBlock ∧ some k_ ≠ (.slice Ao50 t403.length co50 : Value).ownBlock ∧ some k_ ≠ (.slice Ao51 y406.length co51 : Value).ownBlock ∧ some k_ ≠ (.slice Ao53 t410.length co53 : Value).ownBlock ∧ some k_ ≠ (v414 : Value).ownBlock)) (HL416_4.out) (fun k_ hk => ⟨hk.2,⟨hk.1.1.1.1.1.1.1.1.2,⟨hk.1.1.1.1.1.1.1.2,⟨hk.1.1.1.1.1.1.2,⟨hk.1.1.1.1.1.2,⟨hk.1.1.1.1.2,⟨hk.1.1.1.2,⟨hk.1.1.2,hk.1.2⟩⟩⟩⟩⟩⟩⟩⟩))).2.1 (Kd.V_F (Kd.V_mono (ok' := (fun k_ => some k_ ≠ (.slice (some ad416) t375.length co33 : Value).ownBlock ∧ some k_ ≠ (.slice Ao39 t384.length co39 : Value).ownBlock ∧ some k_ ≠ (.slice Ao40 y387.length co40 : Value).ownBlock ∧ some k_ ≠ (.slice Ao45 t396.length co45 : Value).ownBlock ∧ some k_ ≠ (.slice Ao46 y399.length co46 : Value).ownBlock ∧ some k_ ≠ (.slice Ao50 t403.length co50 : Value).ownBlock ∧ some k_ ≠ (.slice Ao51 y406.length co51 : Value).ownBlock ∧ some k_ ≠ (.slice Ao53 t410.length co53 : Value).ownBlock ∧ some k_ ≠ (v414 : Value).ownBlock)) (HL416_4.out) (fun k_ hk => ⟨hk.2,⟨hk.1.1.1.1.1.1.1.1.2,⟨hk.1.1.1.1.1.1.1.2,⟨hk.1.1.1.1.1.1.2,⟨hk.1.1.1.1.1.2,⟨hk.1.1.1.1.2,⟨hk.1.1.1.2,⟨hk.1.1.2,hk.1.2⟩⟩⟩⟩⟩⟩⟩⟩))) (Kd.V_reads' (Kd.V_mono (ok' := (fun k_ => some k_ ≠ (.slice (some ad416) t375.length co33 : Value).ownBlock ∧ some k_ ≠ (.slice Ao39 t384.length co39 : Value).ownBlock ∧ some k_ ≠ (.slice Ao40 y387.length co40 : Value).ownBlock ∧ some k_ ≠ (.slice Ao45 t396.length co45 : Value).ownBlock ∧ some k_ ≠ (.slice Ao46 y399.length co46 : Value).ownBlock ∧ some k_ ≠ (.slice Ao50 t403.length co50 : Value).ownBlock ∧ some k_ ≠ (.slice Ao51 y406.length co51 : Value).ownBlock ∧ some k_ ≠ (.slice Ao53 t410.length co53 : Value).ownBlock ∧ some k_ ≠ (v414 : Value).ownBlock)) (HL416_5.out) (fun k_ hk => ⟨hk.2,⟨hk.1.1.1.1.1.1.1.1.2,⟨hk.1.1.1.1.1.1.1.2,⟨hk.1.1.1.1.1.1.2,⟨hk.1.1.1.1.1.2,⟨hk.1.1.1.1.2,⟨hk.1.1.1.2,⟨hk.1.1.2,hk.1.2⟩⟩⟩⟩⟩⟩⟩⟩))).2.1 (Kd.V_F (Kd.V_mono (ok' := (fun k_ => some k_ ≠ (.slice (some ad416) t375.length co33 : Value).ownBlock ∧ some k_ ≠ (.slice Ao39 t384.length co39 : Value).ownBlock ∧ some k_ ≠ (.slice Ao40 y387.length co40 : Value).ownBlock ∧ some k_ ≠ (.slice Ao45 t396.length co45 : Value).ownBlock ∧ some k_ ≠ (.slice Ao46 y399.length co46 : Value).ownBlock ∧ some k_ ≠ (.slice Ao50 t403.length co50 : Value).ownBlock ∧ some k_ ≠ (.slice Ao51 y406.length co51 : Value).ownBlock ∧ some k_ ≠ (.slice Ao53 t410.length co53 : Value).ownBlock ∧ some k_ ≠ (v414 : Value).ownBlock)) (HL416_5.out) (fun k_ hk => ⟨hk.2,⟨hk.1.1.1.1.1.1.1.1.2,⟨hk.1.1.1.1.1.1.1.2,⟨hk.1.1.1.1.1.1.2,⟨hk.1.1.1.1.1.2,⟨hk.1.1.1.1.2,⟨hk.1.1.1.2,⟨hk.1.1.2,hk.1.2⟩⟩⟩⟩⟩⟩⟩⟩))))) (Reps.c6 (show Kd.FK k37 _ _ (⟨2,1,1,([] : List Int),([] : List Int),([] : List ByteArray)⟩ : S37) [.int .i64 2,.int .i64 1,.int .i64 1,.slice none 0 0,.slice none 0 0,.slice none 0 0] from (k37_mkF _ _ (⟨2,1,1,([] : List Int),([] : List Int),([] : List ByteArray)⟩ : S37) (Nat.le_refl _) (Kd.F_nil _ _ _) (Nat.le_refl _) (Kd.F_nil _ _ _) (Nat.le_refl _) (Kd.F_nil _ _ _))) (Reps.none _ _))));intro v418 w56 ho57 hb hg_ hnew_;clear hg_ hnew_;(first|rw [← Ny417.out] at ho57|(simp only [Int.reduceToNat] at ho57;rw [← Ny417.out] at ho57));replace HO377 := aK (Kd.N_elder' (nM HO377.out) (Kd.N_base ho57) hb);replace HO386 := aK (Kd.R_below (rM HO386.out) hb);replace HO389 := aK (Kd.R_below (rM HO389.out) hb);replace HO398 := aK (Kd.R_below (rM HO398.out) hb);replace HO401 := aK (Kd.R_below (rM HO401.out) hb);replace HO405 := aK (Kd.R_below (rM HO405.out) hb);replace HO408 := aK (Kd.R_below (rM HO408.out) hb);replace HO412 := aK (Kd.R_below (rM HO412.out) hb);replace HO415 := aK (Kd.R_below (rM HO415.out) hb);have HO419 := aK (Kd.N_lower ho57 (below_size (bM HB.out)));replace HB := aK (below_step (bM HB.out) hb);clear hb ho57;obtain ⟨Ao58,co58,eo58⟩ := Kd.N_slice HO419.out;subst eo58)|((with_reducible refine gate_callee (f := 21) rfl ?_);refine goesL_ (some 49) rfl rfl Tryd.func21 (by kernel_rfl) rfl #[.slice Ao58 y417.length co58] rfl (by (try simp only [List.map_toArray,List.map_cons,List.map_nil]);first|done|rfl|(simp only [List.length_drop,List.length_take];rfl)) ?_;(with_reducible refine (manifest_Right.calls k _ _ y417 t420 _ ?side1 ?side2 A20.out).mono ?_);(case side1 => exact cM (Kd.N_reads' HO419.out).2.2);(case side2 => exact (Kd.N_reads' HO419.out).2.1);rintro e w59 ⟨rfl,hb⟩;refine ⟨_,rfl,?_⟩;replace HO377 := aK (Kd.N_below (nM HO377.out) hb);replace HO386 := aK (Kd.R_below (rM HO386.out) hb);replace HO389 := aK (Kd.R_below (rM HO389.out) hb);replace HO398 := aK (Kd.R_below (rM HO398.out) hb);replace HO401 := aK (Kd.R_below (rM HO401.out) hb);replace HO405 := aK (Kd.R_below (rM HO405.out) hb);replace HO408 := aK (Kd.R_below (rM HO408.out) hb);replace HO412 := aK (Kd.R_below (rM HO412.out) hb);replace HO415 := aK (Kd.R_below (rM HO415.out) hb);replace HO419 := aK (Kd.N_below (nM HO419.out) hb);replace HB := aK (below_step (bM HB.out) hb);(try clear hb);(try clear hk);have p421 : 0 ≤ (0 : Int) := (by omega);have q421 : 0 < (t375.length : Int) := of_decide_eq_true (by assumption);obtain ⟨ad421,A421_3,c421_3,A421_4,c421_4,A421_5,c421_5,e421,hx421_0,hx421_1,hx421_2,hx421_3,hx421_4,hx421_5,hl421_3,hi421_3,hl421_4,hi421_4,hl421_5,hi421_5⟩ := at_T37 (Kd.N_reads' HO377.out).2.2 0 p421 q421;obtain rfl : ad416 = ad421 := (by injection e421);obtain ⟨ce421,hce421,hMe421,hcc421⟩ := Kd.N_get HO377.out z37 0 p421 (by first|exact q421|exact of_decide_eq_true (by assumption)|(have e_ := (Kd.N_reads' HO377.out).1;omega));obtain ⟨ua421_3,uc421_3,ua421_4,uc421_4,ua421_5,uc421_5,rfl,ul421_3,ge421_3,ul421_4,ge421_4,ul421_5,ge421_5⟩ := k37_openF hMe421;have hv421_3 := hcc421 3 _ rfl;rw [add_field _ _ 3 (by omega)] at hv421_3;replace hv421_3 := Option.some.inj (hv421_3.symm.trans hx421_3);injection hv421_3 with hva_ hvn_ hvc_;rw [hva_] at ge421_3;rw [hvc_] at ul421_3;have HL421_3 := aK (show Kd.V (Kd.int .i64) 3 _ w.heap.size _ _ ((rd_T37 t375 0).f3) from Kd.V_mk ul421_3 ge421_3);clear hva_ hvn_ hvc_ ge421_3 ul421_3;have hv421_4 := hcc421 4 _ rfl;rw [add_field _ _ 4 (by omega)] at hv421_4;replace hv421_4 := Option.some.inj (hv421_4.symm.trans hx421_4);injection hv421_4 with hva_ hvn_ hvc_;rw [hva_] at ge421_4;rw [hvc_] at ul421_4;have HL421_4 := aK (show Kd.V (Kd.int .i64) 3 _ w.heap.size _ _ ((rd_T37 t375 0).f4) from Kd.V_mk ul421_4 ge421_4);clear hva_ hvn_ hvc_ ge421_4 ul421_4;have hv421_5 := hcc421 5 _ rfl;rw [add_field _ _ 5 (by omega)] at hv421_5;replace hv421_5 := Option.some.inj (hv421_5.symm.trans hx421_5);injection hv421_5 with hva_ hvn_ hvc_;rw [hva_] at ge421_5;rw [hvc_] at ul421_5;have HL421_5 := aK (show Kd.V Kd.string 9 _ w.heap.size _ _ ((rd_T37 t375 0).f5) from Kd.V_mk ul421_5 ge421_5);clear hva_ hvn_ hvc_ ge421_5 ul421_5;clear hcc421 hce421;have qi421 : (0 < t375.length) = True := eq_true (by omega);(try rw [show ((0 : Int)).toNat = 0 from rfl] at hx421_0);(try rw [show 0 * 6 = 0 from rfl] at hx421_0);(try rw [Addr.add_zero'] at hx421_0);(try rw [show ((0 : Int)).toNat = 0 from rfl] at hx421_1);(try rw [show 0 * 6 = 0 from rfl] at hx421_1);(try rw [Addr.add_zero'] at hx421_1);(try rw [show ((0 : Int)).toNat = 0 from rfl] at hx421_2);(try rw [show 0 * 6 = 0 from rfl] at hx421_2);(try rw [Addr.add_zero'] at hx421_2);(try rw [show ((0 : Int)).toNat = 0 from rfl] at hx421_3);(try rw [show 0 * 6 = 0 from rfl] at hx421_3);(try rw [Addr.add_zero'] at hx421_3);(try rw [show ((0 : Int)).toNat = 0 from rfl] at hx421_4);(try rw [show 0 * 6 = 0 from rfl] at hx421_4);(try rw [Addr.add_zero'] at hx421_4);(try rw [show ((0 : Int)).toNat = 0 from rfl] at hx421_5);(try rw [show 0 * 6 = 0 from rfl] at hx421_5);(try rw [Addr.add_zero'] at hx421_5);have HR421_3 := aK hi421_3;have HC421_3 := aK hl421_3;clear hi421_3 hl421_3;have HR421_4 := aK hi421_4;have HC421_4 := aK hl421_4;clear hi421_4 hl421_4;have HR421_5 := aK hi421_5;have HC421_5 := aK hl421_5;clear hi421_5 hl421_5;replace p421 := eq_true p421;replace q421 := eq_true q421)|((with_reducible refine gate_dst (N := 53) rfl ?_);(try (refine gate_guard (by rfl) ?_;dsimp only));refine Kd.R_lit (Kd.int .i64) _ 3 ?hg (N := 53) ?hd (xs := ([4] : List Int)) (inner := [.int .i64 4]) (ok := fun _ => True) (okp := fun _ => True) ?hr ?hp (fun _ hk => hk) trivial (Below.refl _ _) (Nat.le_refl _) (by simp) ?_;(case hd => rfl);(case hg => rfl);(case hr => first|(go_simp;done)|(go_simp;rfl));(case hp => exact (Reps.one (show Kd.M (Kd.int .i64) _ _ _ 4 [.int .i64 4] from rfl) (Reps.none _ _)));intro v423 w60 ho61 hb hg_ hnew_;clear hg_ hnew_;(first|rw [← Ny422.out] at ho61|(simp only [Int.reduceToNat] at ho61;rw [← Ny422.out] at ho61));replace HO377 := aK (Kd.N_elder' (nM HO377.out) (Kd.R_base ho61) hb);replace HO415 := aK (Kd.R_below (rM HO415.out) hb);replace HO419 := aK (Kd.N_elder' (nM HO419.out) (Kd.R_base ho61) hb);replace HL421_3 := aK (Kd.V_elder' (vM HL421_3.out) (Kd.R_base ho61) hb);replace HL421_4 := aK (Kd.V_elder' (vM HL421_4.out) (Kd.R_base ho61) hb);replace HL421_5 := aK (Kd.V_elder' (vM HL421_5.out) (Kd.R_base ho61) hb);have HO424 := aK (Kd.R_lower (Kd.R_new' (Kd.R_new' (Kd.R_new' (Kd.R_new' (Kd.R_new' (Kd.R_new' (Kd.R_new' ho61 (Kd.R_lt (rM HO386.out))) (Kd.R_lt (rM HO389.out))) (Kd.R_lt (rM HO398.out))) (Kd.R_lt (rM HO401.out))) (Kd.R_lt (rM HO405.out))) (Kd.R_lt (rM HO408.out))) (Kd.R_lt (rM HO412.out))) (below_size (bM HB.out)));replace HO386 := aK (Kd.R_elder' (rM HO386.out) (Kd.R_base ho61) hb);replace HO389 := aK (Kd.R_elder' (rM HO389.out) (Kd.R_base ho61) hb);replace HO398 := aK (Kd.R_elder' (rM HO398.out) (Kd.R_base ho61) hb);replace HO401 := aK (Kd.R_elder' (rM HO401.out) (Kd.R_base ho61) hb);replace HO405 := aK (Kd.R_elder' (rM HO405.out) (Kd.R_base ho61) hb);replace HO408 := aK (Kd.R_elder' (rM HO408.out) (Kd.R_base ho61) hb);replace HO412 := aK (Kd.R_elder' (rM HO412.out) (Kd.R_base ho61) hb);replace HB := aK (below_step (bM HB.out) hb);clear hb ho61;obtain ⟨Ao62,co62,eo62⟩ := Kd.R_slice HO424.out;subst eo62)|((with_reducible refine gate_dst (N := 55) rfl ?_);(try (refine gate_guard (by rfl) ?_;dsimp only));refine Kd.N_lit k37 _ 37 ?hg (N' := 55) ?hd (xs := ([(⟨(rd_T37 t375 0).f0,(rd_T37 t375 0).f1,(rd_T37 t375 0).f2,(rd_T37 t375 0).f3,(rd_T37 t375 0).f4,(rd_T37 t375 0).f5⟩ : S37),(⟨2,3,2,([] : List Int),y422,([] : List ByteArray)⟩ : S37)] : List (S37))) (inner := [.int .i64 ((rd_T37 t375 0).f0),.int .i64 ((rd_T37 t375 0).f1),.int .i64 ((rd_T37 t375 0).f2),.slice A421_3 ((rd_T37 t375 0).f3).length c421_3,.slice A421_4 ((rd_T37 t375 0).f4).length c421_4,.slice A421_5 ((rd_T37 t375 0).f5).length c421_5,.int .i64 2,.int .i64 3,.int .i64 2,.slice none 0 0,.slice Ao62 y422.length co62,.slice none 0 0]) (ok := (fun k_ => some k_ ≠ (.slice (some ad416) t375.length co33 : Value).ownBlock ∧ some k_ ≠ (.slice Ao39 t384.length co39 : Value).ownBlock ∧ some k_ ≠ (.slice Ao40 y387.length co40 : Value).ownBlock ∧ some k_ ≠ (.slice Ao45 t396.length co45 : Value).ownBlock ∧ some k_ ≠ (.slice Ao46 y399.length co46 : Value).ownBlock ∧ some k_ ≠ (.slice Ao50 t403.length co50 : Value).ownBlock ∧ some k_ ≠ (.slice Ao51 y406.length co51 : Value).ownBlock ∧ some k_ ≠ (.slice Ao53 t410.length co53 : Value).ownBlock ∧ some k_ ≠ (v414 : Value).ownBlock ∧ some k_ ≠ (.slice Ao58 y417.length co58 : Value).ownBlock)) (okp := (fun k_ => some k_ ≠ (.slice (some ad416) t375.length co33 : Value).ownBlock ∧ some k_ ≠ (.slice Ao39 t384.length co39 : Value).ownBlock ∧ some k_ ≠ (.slice Ao40 y387.length co40 : Value).ownBlock ∧ some k_ ≠ (.slice Ao45 t396.length co45 : Value).ownBlock ∧ some k_ ≠ (.slice Ao46 y399.length co46 : Value).ownBlock ∧ some k_ ≠ (.slice Ao50 t403.length co50 : Value).ownBlock ∧ some k_ ≠ (.slice Ao51 y406.length co51 : Value).ownBlock ∧ some k_ ≠ (.slice Ao53 t410.length co53 : Value).ownBlock ∧ some k_ ≠ (v414 : Value).ownBlock ∧ some k_ ≠ (.slice Ao58 y417.length co58 : Value).ownBlock)) ?hr ?hp (fun _ hk => hk) ((show ∀ k_,w60.heap.size ≤ k_ → (fun k_ => some k_ ≠ (.slice (some ad416) t375.length co33 : Value).ownBlock ∧ some k_ ≠ (.slice Ao39 t384.length co39 : Value).ownBlock ∧ some k_ ≠ (.slice Ao40 y387.length co40 : Value).ownBlock ∧ some k_ ≠ (.slice Ao45 t396.length co45 : Value).ownBlock ∧ some k_ ≠ (.slice Ao46 y399.length co46 : Value).ownBlock ∧ some k_ ≠ (.slice Ao50 t403.length co50 : Value).ownBlock ∧ some k_ ≠ (.slice Ao51 y406.length co51 : Value).ownBlock ∧ some k_ ≠ (.slice Ao53 t410.length co53 : Value).ownBlock ∧ some k_ ≠ (v414 : Value).ownBlock ∧ some k_ ≠ (.slice Ao58 y417.length co58 : Value).ownBlock) k_ from fun k_ hk => ⟨Kd.fresh' (Kd.N_lt (nM HO377.out)) k_ hk,Kd.fresh' (Kd.R_lt (rM HO386.out)) k_ hk,Kd.fresh' (Kd.R_lt (rM HO389.out)) k_ hk,Kd.fresh' (Kd.R_lt (rM HO398.out)) k_ hk,Kd.fresh' (Kd.R_lt (rM HO401.out)) k_ hk,Kd.fresh' (Kd.R_lt (rM HO405.out)) k_ hk,Kd.fresh' (Kd.R_lt (rM HO408.out)) k_ hk,Kd.fresh' (Kd.R_lt (rM HO412.out)) k_ hk,Kd.fresh' (Kd.R_lt (rM HO415.out)) k_ hk,Kd.fresh' (Kd.N_lt (nM HO419.out)) k_ hk⟩) _ (Nat.le_refl _)) (Below.refl _ _) (Nat.le_refl _) (by simp) ?_;(case hd => rfl);(case hg => rfl);(case hr => first|(go_simp;done)|(go_simp;rfl));(case hp => exact (Reps.c6 (show Kd.FK k37 _ _ (⟨(rd_T37 t375 0).f0,(rd_T37 t375 0).f1,(rd_T37 t375 0).f2,(rd_T37 t375 0).f3,(rd_T37 t375 0).f4,(rd_T37 t375 0).f5⟩ : S37) [.int .i64 ((rd_T37 t375 0).f0),.int .i64 ((rd_T37 t375 0).f1),.int .i64 ((rd_T37 t375 0).f2),.slice A421_3 ((rd_T37 t375 0).f3).length c421_3,.slice A421_4 ((rd_T37 t375 0).f4).length c421_4,.slice A421_5 ((rd_T37 t375 0).f5).length c421_5] from (k37_mkF _ _ (⟨(rd_T37 t375 0).f0,(rd_T37 t375 0).f1,(rd_T37 t375 0).f2,(rd_T37 t375 0).f3,(rd_T37 t375 0).f4,(rd_T37 t375 0).f5⟩ : S37) (Kd.V_reads' (Kd.V_mono (ok' := (fun k_ => some k_ ≠ (.slice (some ad416) t375.length co33 : Value).ownBlock ∧ some k_ ≠ (.slice Ao39 t384.length co39 : Value).ownBlock ∧ some k_ ≠ (.slice Ao40 y387.length co40 : Value).ownBlock ∧ some k_ ≠ (.slice Ao45 t396.length co45 : Value).ownBlock ∧ some k_ ≠ (.slice Ao46 y399.length co46 : Value).ownBlock ∧ some k_ ≠ (.slice Ao50 t403.length co50 : Value).ownBlock ∧ some k_ ≠ (.slice Ao51 y406.length co51 : Value).ownBlock ∧ some k_ ≠ (.slice Ao53 t410.length co53 : Value).ownBlock ∧ some k_ ≠ (v414 : Value).ownBlock ∧ some k_ ≠ (.slice Ao58 y417.length co58 : Value).ownBlock)) (HL421_3.out) (fun k_ hk => ⟨hk.1.2,⟨hk.1.1.1.1.1.1.1.1.1.1.2,⟨hk.1.1.1.1.1.1.1.1.1.2,⟨hk.1.1.1.1.1.1.1.1.2,⟨hk.1.1.1.1.1.1.1.2,⟨hk.1.1.1.1.1.1.2,⟨hk.1.1.1.1.1.2,⟨hk.1.1.1.1.2,⟨hk.1.1.1.2,hk.1.1.2⟩⟩⟩⟩⟩⟩⟩⟩⟩))).2.1 (Kd.V_F (Kd.V_mono (ok' := (fun k_ => some k_ ≠ (.slice (some ad416) t375.length co33 : Value).ownBlock ∧ some k_ ≠ (.slice Ao39 t384.length co39 : Value).ownBlock ∧ some k_ ≠ (.slice Ao40 y387.length co40 : Value).ownBlock ∧ some k_ ≠ (.slice Ao45 t396.length co45 : Value).ownBlock ∧ some k_ ≠ (.slice Ao46 y399.length co46 : Value).ownBlock ∧ some k_ ≠ (.slice Ao50 t403.length co50 : Value).ownBlock ∧ some k_ ≠ (.slice Ao51 y406.length co51 : Value).ownBlock ∧ some k_ ≠ (.slice Ao53 t410.length co53 : Value).ownBlock ∧ some k_ ≠ (v414 : Value).ownBlock ∧ some k_ ≠ (.slice Ao58 y417.length co58 : Value).ownBlock)) (HL421_3.out) (fun k_ hk => ⟨hk.1.2,⟨hk.1.1.1.1.1.1.1.1.1.1.2,⟨hk.1.1.1.1.1.1.1.1.1.2,⟨hk.1.1.1.1.1.1.1.1.2,⟨hk.1.1.1.1.1.1.1.2,⟨hk.1.1.1.1.1.1.2,⟨hk.1.1.1.1.1.2,⟨hk.1.1.1.1.2,⟨hk.1.1.1.2,hk.1.1.2⟩⟩⟩⟩⟩⟩⟩⟩⟩))) (Kd.V_reads' (Kd.V_mono (ok' := (fun k_ => some k_ ≠ (.slice (some ad416) t375.length co33 : Value).ownBlock ∧ some k_ ≠ (.slice Ao39 t384.length co39 : Value).ownBlock ∧ some k_ ≠ (.slice Ao40 y387.length co40 : Value).ownBlock ∧ some k_ ≠ (.slice Ao45 t396.length co45 : Value).ownBlock ∧ some k_ ≠ (.slice Ao46 y399.length co46 : Value).ownBlock ∧ some k_ ≠ (.slice Ao50 t403.length co50 : Value).ownBlock ∧ some k_ ≠ (.slice Ao51 y406.length co51 : Value).ownBlock ∧ some k_ ≠ (.slice Ao53 t410.length co53 : Value).ownBlock ∧ some k_ ≠ (v414 : Value).ownBlock ∧ some k_ ≠ (.slice Ao58 y417.length co58 : Value).ownBlock)) (HL421_4.out) (fun k_ hk => ⟨hk.1.2,⟨hk.1.1.1.1.1.1.1.1.1.1.2,⟨hk.1.1.1.1.1.1.1.1.1.2,⟨hk.1.1.1.1.1.1.1.1.2,⟨hk.1.1.1.1.1.1.1.2,⟨hk.1.1.1.1.1.1.2,⟨hk.1.1.1.1.1.2,⟨hk.1.1.1.1.2,⟨hk.1.1.1.2,hk.1.1.2⟩⟩⟩⟩⟩⟩⟩⟩⟩))).2.1 (Kd.V_F (Kd.V_mono (ok' := (fun k_ => some k_ ≠ (.slice (some ad416) t375.length co33 : Value).ownBlock ∧ some k_ ≠ (.slice Ao39 t384.length co39 : Value).ownBlock ∧ some k_ ≠ (.slice Ao40 y387.length co40 : Value).ownBlock ∧ some k_ ≠ (.slice Ao45 t396.length co45 : Value).ownBlock ∧ some k_ ≠ (.slice Ao46 y399.length co46 : Value).ownBlock ∧ some k_ ≠ (.slice Ao50 t403.length co50 : Value).ownBlock ∧ some k_ ≠ (.slice Ao51 y406.length co51 : Value).ownBlock ∧ some k_ ≠ (.slice Ao53 t410.length co53 : Value).ownBlock ∧ some k_ ≠ (v414 : Value).ownBlock ∧ some k_ ≠ (.slice Ao58 y417.length co58 : Value).ownBlock)) (HL421_4.out) (fun k_ hk => ⟨hk.1.2,⟨hk.1.1.1.1.1.1.1.1.1.1.2,⟨hk.1.1.1.1.1.1.1.1.1.2,⟨hk.1.1.1.1.1.1.1.1.2,⟨hk.1.1.1.1.1.1.1.2,⟨hk.1.1.1.1.1.1.2,⟨hk.1.1.1.1.1.2,⟨hk.1.1.1.1.2,⟨hk.1.1.1.2,hk.1.1.2⟩⟩⟩⟩⟩⟩⟩⟩⟩))) (Kd.V_reads' (Kd.V_mono (ok' := (fun k_ => some k_ ≠ (.slice (some ad416) t375.length co33 : Value).ownBlock ∧ some k_ ≠ (.slice Ao39 t384.length co39 : Value).ownBlock ∧ some k_ ≠ (.slice Ao40 y387.length co40 : Value).ownBlock ∧ some k_ ≠ (.slice Ao45 t396.length co45 : Value).ownBlock ∧ some k_ ≠ (.slice Ao46 y399.length co46 : Value).ownBlock ∧ some k_ ≠ (.slice Ao50 t403.length co50 : Value).ownBlock ∧ some k_ ≠ (.slice Ao51 y406.length co51 : Value).ownBlock ∧ some k_ ≠ (.slice Ao53 t410.length co53 : Value).ownBlock ∧ some k_ ≠ (v414 : Value).ownBlock ∧ some k_ ≠ (.slice Ao58 y417.length co58 : Value).ownBlock)) (HL421_5.out) (fun k_ hk => ⟨hk.1.2,⟨hk.1.1.1.1.1.1.1.1.1.1.2,⟨hk.1.1.1.1.1.1.1.1.1.2,⟨hk.1.1.1.1.1.1.1.1.2,⟨hk.1.1.1.1.1.1.1.2,⟨hk.1.1.1.1.1.1.2,⟨hk.1.1.1.1.1.2,⟨hk.1.1.1.1.2,⟨hk.1.1.1.2,hk.1.1.2⟩⟩⟩⟩⟩⟩⟩⟩⟩))).2.1 (Kd.V_F (Kd.V_mono (ok' := (fun k_ => some k_ ≠ (.slice (some ad416) t375.length co33 : Value).ownBlock ∧ some k_ ≠ (.slice Ao39 t384.length co39 : Value).ownBlock ∧ some k_ ≠ (.slice Ao40 y387.length co40 : Value).ownBlock ∧ some k_ ≠ (.slice Ao45 t396.length co45 : Value).ownBlock ∧ some k_ ≠ (.slice Ao46 y399.length co46 : Value).ownBlock ∧ some k_ ≠ (.slice Ao50 t403.length co50 : Value).ownBlock ∧ some k_ ≠ (.slice Ao51 y406.length co51 : Value).ownBlock ∧ some k_ ≠ (.slice Ao53 t410.length co53 : Value).ownBlock ∧ some k_ ≠ (v414 : Value).ownBlock ∧ some k_ ≠ (.slice Ao58 y417.length co58 : Value).ownBlock)) (HL421_5.out) (fun k_ hk => ⟨hk.1.2,⟨hk.1.1.1.1.1.1.1.1.1.1.2,⟨hk.1.1.1.1.1.1.1.1.1.2,⟨hk.1.1.1.1.1.1.1.1.2,⟨hk.1.1.1.1.1.1.1.2,⟨hk.1.1.1.1.1.1.2,⟨hk.1.1.1.1.1.2,⟨hk.1.1.1.1.2,⟨hk.1.1.1.2,hk.1.1.2⟩⟩⟩⟩⟩⟩⟩⟩⟩))))) (Reps.c6 (show Kd.FK k37 _ _ (⟨2,3,2,([] : List Int),y422,([] : List ByteArray)⟩ : S37) [.int .i64 2,.int .i64 3,.int .i64 2,.slice none 0 0,.slice Ao62 y422.length co62,.slice none 0 0] from (k37_mkF _ _ (⟨2,3,2,([] : List Int),y422,([] : List ByteArray)⟩ : S37) (Nat.le_refl _) (Kd.F_nil _ _ _) (Kd.R_reads' (Kd.R_mono (ok' := (fun k_ => some k_ ≠ (.slice (some ad416) t375.length co33 : Value).ownBlock ∧ some k_ ≠ (.slice Ao39 t384.length co39 : Value).ownBlock ∧ some k_ ≠ (.slice Ao40 y387.length co40 : Value).ownBlock ∧ some k_ ≠ (.slice Ao45 t396.length co45 : Value).ownBlock ∧ some k_ ≠ (.slice Ao46 y399.length co46 : Value).ownBlock ∧ some k_ ≠ (.slice Ao50 t403.length co50 : Value).ownBlock ∧ some k_ ≠ (.slice Ao51 y406.length co51 : Value).ownBlock ∧ some k_ ≠ (.slice Ao53 t410.length co53 : Value).ownBlock ∧ some k_ ≠ (v414 : Value).ownBlock ∧ some k_ ≠ (.slice Ao58 y417.length co58 : Value).ownBlock)) (Kd.R_apart' (Kd.R_apart' (Kd.R_apart' (HO424.out) (Kd.N_typed HO377.out) (by decide)) (Kd.R_typed HO415.out) (by decide)) (Kd.N_typed HO419.out) (by decide)) (fun k_ hk => ⟨hk.1.1.2,⟨hk.1.1.1.1.1.1.1.1.1.2,⟨hk.1.1.1.1.1.1.1.1.2,⟨hk.1.1.1.1.1.1.1.2,⟨hk.1.1.1.1.1.1.2,⟨hk.1.1.1.1.1.2,⟨hk.1.1.1.1.2,⟨hk.1.1.1.2,⟨hk.1.2,hk.2⟩⟩⟩⟩⟩⟩⟩⟩⟩))).2.1 (Kd.R_F (Kd.R_mono (ok' := (fun k_ => some k_ ≠ (.slice (some ad416) t375.length co33 : Value).ownBlock ∧ some k_ ≠ (.slice Ao39 t384.length co39 : Value).ownBlock ∧ some k_ ≠ (.slice Ao40 y387.length co40 : Value).ownBlock ∧ some k_ ≠ (.slice Ao45 t396.length co45 : Value).ownBlock ∧ some k_ ≠ (.slice Ao46 y399.length co46 : Value).ownBlock ∧ some k_ ≠ (.slice Ao50 t403.length co50 : Value).ownBlock ∧ some k_ ≠ (.slice Ao51 y406.length co51 : Value).ownBlock ∧ some k_ ≠ (.slice Ao53 t410.length co53 : Value).ownBlock ∧ some k_ ≠ (v414 : Value).ownBlock ∧ some k_ ≠ (.slice Ao58 y417.length co58 : Value).ownBlock)) (Kd.R_apart' (Kd.R_apart' (Kd.R_apart' (HO424.out) (Kd.N_typed HO377.out) (by decide)) (Kd.R_typed HO415.out) (by decide)) (Kd.N_typed HO419.out) (by decide)) (fun k_ hk => ⟨hk.1.1.2,⟨hk.1.1.1.1.1.1.1.1.1.2,⟨hk.1.1.1.1.1.1.1.1.2,⟨hk.1.1.1.1.1.1.1.2,⟨hk.1.1.1.1.1.1.2,⟨hk.1.1.1.1.1.2,⟨hk.1.1.1.1.2,⟨hk.1.1.1.2,⟨hk.1.2,hk.2⟩⟩⟩⟩⟩⟩⟩⟩⟩))) (Nat.le_refl _) (Kd.F_nil _ _ _))) (Reps.none _ _))));intro v426 w63 ho64 hb hg_ hnew_;clear hg_ hnew_;(first|rw [← Ny425.out] at ho64|(simp only [Int.reduceToNat] at ho64;rw [← Ny425.out] at ho64));replace HO377 := aK (Kd.N_elder' (nM HO377.out) (Kd.N_base ho64) hb);replace HO386 := aK (Kd.R_below (rM HO386.out) hb);replace HO389 := aK (Kd.R_below (rM HO389.out) hb);replace HO398 := aK (Kd.R_below (rM HO398.out) hb);replace HO401 := aK (Kd.R_below (rM HO401.out) hb);replace HO405 := aK (Kd.R_below (rM HO405.out) hb);replace HO408 := aK (Kd.R_below (rM HO408.out) hb);replace HO412 := aK (Kd.R_below (rM HO412.out) hb);replace HO415 := aK (Kd.R_below (rM HO415.out) hb);replace HO419 := aK (Kd.N_elder' (nM HO419.out) (Kd.N_base ho64) hb);have HO427 := aK (Kd.N_lower ho64 (below_size (bM HB.out)));replace HB := aK (below_step (bM HB.out) hb);clear hb ho64;obtain ⟨Ao65,co65,eo65⟩ := Kd.N_slice HO427.out;subst eo65)|((with_reducible refine gate_callee (f := 21) rfl ?_);refine goesL_ (some 56) rfl rfl Tryd.func21 (by kernel_rfl) rfl #[.slice Ao65 y425.length co65] rfl (by (try simp only [List.map_toArray,List.map_cons,List.map_nil]);first|done|rfl|(simp only [List.length_drop,List.length_take];rfl)) ?_;(with_reducible refine (manifest_Right.calls k _ _ y425 t428 _ ?side1 ?side2 A21.out).mono ?_);(case side1 => exact cM (Kd.N_reads' HO427.out).2.2);(case side2 => exact (Kd.N_reads' HO427.out).2.1);rintro e w66 ⟨rfl,hb⟩;refine ⟨_,rfl,?_⟩;replace HO377 := aK (Kd.N_below (nM HO377.out) hb);replace HO386 := aK (Kd.R_below (rM HO386.out) hb);replace HO389 := aK (Kd.R_below (rM HO389.out) hb);replace HO398 := aK (Kd.R_below (rM HO398.out) hb);replace HO401 := aK (Kd.R_below (rM HO401.out) hb);replace HO405 := aK (Kd.R_below (rM HO405.out) hb);replace HO408 := aK (Kd.R_below (rM HO408.out) hb);replace HO412 := aK (Kd.R_below (rM HO412.out) hb);replace HO415 := aK (Kd.R_below (rM HO415.out) hb);replace HO419 := aK (Kd.N_below (nM HO419.out) hb);replace HO427 := aK (Kd.N_below (nM HO427.out) hb);replace HB := aK (below_step (bM HB.out) hb);(try clear hb);(try clear hk))|((with_reducible refine gate_dst (N := 58) rfl ?_);(try (refine gate_guard (by rfl) ?_;dsimp only));refine Kd.N_lit k37 _ 37 ?hg (N' := 58) ?hd (xs := ([(⟨1,2,0,([] : List Int),([] : List Int),([] : List ByteArray)⟩ : S37)] : List (S37))) (inner := [.int .i64 1,.int .i64 2,.int .i64 0,.slice none 0 0,.slice none 0 0,.slice none 0 0]) (ok := (fun k_ => some k_ ≠ (.slice (some ad416) t375.length co33 : Value).ownBlock ∧ some k_ ≠ (.slice Ao39 t384.length co39 : Value).ownBlock ∧ some k_ ≠ (.slice Ao40 y387.length co40 : Value).ownBlock ∧ some k_ ≠ (.slice Ao45 t396.length co45 : Value).ownBlock ∧ some k_ ≠ (.slice Ao46 y399.length co46 : Value).ownBlock ∧ some k_ ≠ (.slice Ao50 t403.length co50 : Value).ownBlock ∧ some k_ ≠ (.slice Ao51 y406.length co51 : Value).ownBlock ∧ some k_ ≠ (.slice Ao53 t410.length co53 : Value).ownBlock ∧ some k_ ≠ (v414 : Value).ownBlock ∧ some k_ ≠ (.slice Ao58 y417.length co58 : Value).ownBlock ∧ some k_ ≠ (.slice Ao65 y425.length co65 : Value).ownBlock)) (okp := (fun k_ => some k_ ≠ (.slice (some ad416) t375.length co33 : Value).ownBlock ∧ some k_ ≠ (.slice Ao39 t384.length co39 : Value).ownBlock ∧ some k_ ≠ (.slice Ao40 y387.length co40 : Value).ownBlock ∧ some k_ ≠ (.slice Ao45 t396.length co45 : Value).ownBlock ∧ some k_ ≠ (.slice Ao46 y399.length co46 : Value).ownBlock ∧ some k_ ≠ (.slice Ao50 t403.length co50 : Value).ownBlock ∧ some k_ ≠ (.slice Ao51 y406.length co51 : Value).ownBlock ∧ some k_ ≠ (.slice Ao53 t410.length co53 : Value).ownBlock ∧ some k_ ≠ (v414 : Value).ownBlock ∧ some k_ ≠ (.slice Ao58 y417.length co58 : Value).ownBlock ∧ some k_ ≠ (.slice Ao65 y425.length co65 : Value).ownBlock)) ?hr ?hp (fun _ hk => hk) ((show ∀ k_,w66.heap.size ≤ k_ → (fun k_ => some k_ ≠ (.slice (some ad416) t375.length co33 : Value).ownBlock ∧ some k_ ≠ (.slice Ao39 t384.length co39 : Value).ownBlock ∧ some k_ ≠ (.slice Ao40 y387.length co40 : Value).ownBlock ∧ some k_ ≠ (.slice Ao45 t396.length co45 : Value).ownBlock ∧ some k_ ≠ (.slice Ao46 y399.length co46 : Value).ownBlock ∧ some k_ ≠ (.slice Ao50 t403.length co50 : Value).ownBlock ∧ some k_ ≠ (.slice Ao51 y406.length co51 : Value).ownBlock ∧ some k_ ≠ (.slice Ao53 t410.length co53 : Value).ownBlock ∧ some k_ ≠ (v414 : Value).ownBlock ∧ some k_ ≠ (.slice Ao58 y417.length co58 : Value).ownBlock ∧ some k_ ≠ (.slice Ao65 y425.length co65 : Value).ownBlock) k_ from fun k_ hk => ⟨Kd.fresh' (Kd.N_lt (nM HO377.out)) k_ hk,Kd.fresh' (Kd.R_lt (rM HO386.out)) k_ hk,Kd.fresh' (Kd.R_lt (rM HO389.out)) k_ hk,Kd.fresh' (Kd.R_lt (rM HO398.out)) k_ hk,Kd.fresh' (Kd.R_lt (rM HO401.out)) k_ hk,Kd.fresh' (Kd.R_lt (rM HO405.out)) k_ hk,Kd.fresh' (Kd.R_lt (rM HO408.out)) k_ hk,Kd.fresh' (Kd.R_lt (rM HO412.out)) k_ hk,Kd.fresh' (Kd.R_lt (rM HO415.out)) k_ hk,Kd.fresh' (Kd.N_lt (nM HO419.out)) k_ hk,Kd.fresh' (Kd.N_lt (nM HO427.out)) k_ hk⟩) _ (Nat.le_refl _)) (Below.refl _ _) (Nat.le_refl _) (by simp) ?_;(case hd => rfl);(case hg => rfl);(case hr => first|(go_simp;done)|(go_simp;rfl));(case hp => exact (Reps.c6 (show Kd.FK k37 _ _ (⟨1,2,0,([] : List Int),([] : List Int),([] : List ByteArray)⟩ : S37) [.int .i64 1,.int .i64 2,.int .i64 0,.slice none 0 0,.slice none 0 0,.slice none 0 0] from (k37_mkF _ _ (⟨1,2,0,([] : List Int),([] : List Int),([] : List ByteArray)⟩ : S37) (Nat.le_refl _) (Kd.F_nil _ _ _) (Nat.le_refl _) (Kd.F_nil _ _ _) (Nat.le_refl _) (Kd.F_nil _ _ _))) (Reps.none _ _)));intro v430 w67 ho68 hb hg_ hnew_;clear hg_ hnew_;(first|rw [← Ny429.out] at ho68|(simp only [Int.reduceToNat] at ho68;rw [← Ny429.out] at ho68));replace HO377 := aK (Kd.N_elder' (nM HO377.out) (Kd.N_base ho68) hb);replace HO386 := aK (Kd.R_below (rM HO386.out) hb);replace HO389 := aK (Kd.R_below (rM HO389.out) hb);replace HO398 := aK (Kd.R_below (rM HO398.out) hb);replace HO401 := aK (Kd.R_below (rM HO401.out) hb);replace HO405 := aK (Kd.R_below (rM HO405.out) hb);replace HO408 := aK (Kd.R_below (rM HO408.out) hb);replace HO412 := aK (Kd.R_below (rM HO412.out) hb);replace HO415 := aK (Kd.R_below (rM HO415.out) hb);replace HO419 := aK (Kd.N_elder' (nM HO419.out) (Kd.N_base ho68) hb);replace HO427 := aK (Kd.N_elder' (nM HO427.out) (Kd.N_base ho68) hb);have HO431 := aK (Kd.N_lower ho68 (below_size (bM HB.out)));replace HB := aK (below_step (bM HB.out) hb);clear hb ho68;obtain ⟨Ao69,co69,eo69⟩ := Kd.N_slice HO431.out;subst eo69)|((with_reducible refine gate_callee (f := 21) rfl ?_);refine goesL_ (some 59) rfl rfl Tryd.func21 (by kernel_rfl) rfl #[.slice Ao69 y429.length co69] rfl (by (try simp only [List.map_toArray,List.map_cons,List.map_nil]);first|done|rfl|(simp only [List.length_drop,List.length_take];rfl)) ?_;(with_reducible refine (manifest_Right.calls k _ _ y429 t432 _ ?side1 ?side2 A22.out).mono ?_);(case side1 => exact cM (Kd.N_reads' HO431.out).2.2);(case side2 => exact (Kd.N_reads' HO431.out).2.1);rintro e w70 ⟨rfl,hb⟩;refine ⟨_,rfl,?_⟩;replace HO377 := aK (Kd.N_below (nM HO377.out) hb);replace HO386 := aK (Kd.R_below (rM HO386.out) hb);replace HO389 := aK (Kd.R_below (rM HO389.out) hb);replace HO398 := aK (Kd.R_below (rM HO398.out) hb);replace HO401 := aK (Kd.R_below (rM HO401.out) hb);replace HO405 := aK (Kd.R_below (rM HO405.out) hb);replace HO408 := aK (Kd.R_below (rM HO408.out) hb);replace HO412 := aK (Kd.R_below (rM HO412.out) hb);replace HO415 := aK (Kd.R_below (rM HO415.out) hb);replace HO419 := aK (Kd.N_below (nM HO419.out) hb);replace HO427 := aK (Kd.N_below (nM HO427.out) hb);replace HO431 := aK (Kd.N_below (nM HO431.out) hb);replace HB := aK (below_step (bM HB.out) hb);(try clear hb);(try clear hk))|((with_reducible refine gate_callee (f := 15) rfl ?_);refine goesL_ (some 62) rfl rfl Tryd.func15 (by kernel_rfl) rfl #[.slice (some ad416) t375.length co33] rfl (by (try simp only [List.map_toArray,List.map_cons,List.map_nil]);first|done|rfl|(simp only [List.length_drop,List.length_take];rfl)) ?_;(with_reducible refine (manifest_Write.calls k _ _ t375 t433 _ ?side1 ?side2 A23.out).mono ?_);(case side1 => exact cM (Kd.N_reads' HO377.out).2.2);(case side2 => exact (Kd.N_reads' HO377.out).2.1);rintro e w71 ⟨v434,rfl,ho0,hb⟩;refine ⟨_,rfl,?_⟩;replace HO377 := aK (Kd.N_elder' (nM HO377.out) (Kd.R_base ho0) hb);replace HO386 := aK (Kd.R_below (rM HO386.out) hb);replace HO389 := aK (Kd.R_below (rM HO389.out) hb);replace HO398 := aK (Kd.R_below (rM HO398.out) hb);replace HO401 := aK (Kd.R_below (rM HO401.out) hb);replace HO405 := aK (Kd.R_below (rM HO405.out) hb);replace HO408 := aK (Kd.R_below (rM HO408.out) hb);replace HO412 := aK (Kd.R_below (rM HO412.out) hb);replace HO419 := aK (Kd.N_elder' (nM HO419.out) (Kd.R_base ho0) hb);replace HO427 := aK (Kd.N_elder' (nM HO427.out) (Kd.R_base ho0) hb);replace HO431 := aK (Kd.N_elder' (nM HO431.out) (Kd.R_base ho0) hb);have HO435 := aK (Kd.R_lower (Kd.R_new' ho0 (Kd.R_lt (rM HO415.out))) (below_size (bM HB.out)));replace HO415 := aK (Kd.R_elder' (rM HO415.out) (Kd.R_base ho0) hb);replace HB := aK (below_step (bM HB.out) hb);(try clear hb);(try clear hk);(try clear ho0);obtain ⟨Ao72,co72,eo72⟩ := Kd.R_slice HO435.out;subst eo72)|((with_reducible refine gate_callee (f := 16) rfl ?_);refine goesL_ (some 63) rfl rfl Tryd.func16 (by kernel_rfl) rfl #[.slice Ao72 t433.length co72] rfl (by (try simp only [List.map_toArray,List.map_cons,List.map_nil]);first|done|rfl|(simp only [List.length_drop,List.length_take];rfl)) ?_;(with_reducible refine (manifest_Recover.calls k _ _ t433 t436 t437 _ ?side1 ?side2 A24.out).mono ?_);(case side1 => exact cM (Kd.R_reads' HO435.out).2.2);(case side2 => exact (Kd.R_reads' HO435.out).2.1);rintro e w73 ⟨v438,rfl,ho0,hb⟩;refine ⟨_,rfl,?_⟩;have HO439 := aK (Kd.N_lower (Kd.N_mono (ok' := fun k_ => some k_ ≠ (.slice (some ad416) t375.length co33 : Value).ownBlock ∧ some k_ ≠ (.slice Ao39 t384.length co39 : Value).ownBlock ∧ some k_ ≠ (.slice Ao40 y387.length co40 : Value).ownBlock ∧ some k_ ≠ (.slice Ao45 t396.length co45 : Value).ownBlock ∧ some k_ ≠ (.slice Ao46 y399.length co46 : Value).ownBlock ∧ some k_ ≠ (.slice Ao50 t403.length co50 : Value).ownBlock ∧ some k_ ≠ (.slice Ao51 y406.length co51 : Value).ownBlock ∧ some k_ ≠ (.slice Ao53 t410.length co53 : Value).ownBlock ∧ some k_ ≠ (v414 : Value).ownBlock ∧ some k_ ≠ (.slice Ao58 y417.length co58 : Value).ownBlock ∧ some k_ ≠ (.slice Ao65 y425.length co65 : Value).ownBlock ∧ some k_ ≠ (.slice Ao69 y429.length co69 : Value).ownBlock ∧ some k_ ≠ (.slice Ao72 t433.length co72 : Value).ownBlock) (Kd.S_N (Kd.S_bound ho0)) (fun k_ hk_ => ⟨(Kd.fresh' (Kd.N_lt (nM HO377.out)) k_ hk_.2.1),(Kd.fresh' (Kd.R_lt (rM HO386.out)) k_ hk_.2.1),(Kd.fresh' (Kd.R_lt (rM HO389.out)) k_ hk_.2.1),(Kd.fresh' (Kd.R_lt (rM HO398.out)) k_ hk_.2.1),(Kd.fresh' (Kd.R_lt (rM HO401.out)) k_ hk_.2.1),(Kd.fresh' (Kd.R_lt (rM HO405.out)) k_ hk_.2.1),(Kd.fresh' (Kd.R_lt (rM HO408.out)) k_ hk_.2.1),(Kd.fresh' (Kd.R_lt (rM HO412.out)) k_ hk_.2.1),(Kd.fresh' (Kd.R_lt (rM HO415.out)) k_ hk_.2.1),(Kd.fresh' (Kd.N_lt (nM HO419.out)) k_ hk_.2.1),(Kd.fresh' (Kd.N_lt (nM HO427.out)) k_ hk_.2.1),(Kd.fresh' (Kd.N_lt (nM HO431.out)) k_ hk_.2.1),(Kd.fresh' (Kd.R_lt (rM HO435.out)) k_ hk_.2.1)⟩)) (below_size (bM HB.out)));replace HO377 := aK (Kd.N_elder' (nM HO377.out) (Kd.N_base (Kd.S_N (Kd.S_bound ho0))) hb);replace HO415 := aK (Kd.R_below (rM HO415.out) hb);replace HO435 := aK (Kd.R_below (rM HO435.out) hb);replace HB := aK (below_step (bM HB.out) hb);(try clear hb);(try clear hk);(try clear ho0);obtain ⟨Ao74,co74,eo74⟩ := Kd.N_slice HO439.out;subst eo74)|(go_at_call 17;(with_reducible refine (codesearchref33_SameAll.calls k _ _ t436 _ _ t375 true _ ?side1 ?side2 ?side3 ?side4 A28.out).mono ?_);(case side1 => exact cM (Kd.N_reads' HO439.out).2.2);(case side2 => exact (Kd.N_reads' HO439.out).2.1);(case side3 => exact cM (Kd.N_reads' HO377.out).2.2);(case side4 => exact (Kd.N_reads' HO377.out).2.1);rintro e w75 ⟨rfl,hb⟩;replace HO377 := aK (Kd.N_below (nM HO377.out) hb);replace HO415 := aK (Kd.R_below (rM HO415.out) hb);replace HO435 := aK (Kd.R_below (rM HO435.out) hb);replace HB := aK (below_step (bM HB.out) hb);(try clear hb);(try clear hk))|(go_at_call 15;(with_reducible refine (manifest_Write.calls k _ _ t375 t441 _ ?side1 ?side2 A30.out).mono ?_);(case side1 => exact cM (Kd.N_reads' HO377.out).2.2);(case side2 => exact (Kd.N_reads' HO377.out).2.1);rintro e w76 ⟨v442,rfl,ho0,hb⟩;have HO443 := aK (Kd.R_lower (Kd.R_new' (Kd.R_new' ho0 (Kd.R_lt (rM HO415.out))) (Kd.R_lt (rM HO435.out))) (below_size (bM HB.out)));replace HB := aK (below_step (bM HB.out) hb);(try clear hb);(try clear hk);(try clear ho0);obtain ⟨Ao77,co77,eo77⟩ := Kd.R_slice HO443.out;subst eo77))
  go_ret
  exact ⟨by first|rfl|(simp [errW_none,errW_some] <;> rfl)|(simp [*,errW_none,errW_some] <;> rfl),bM HB.out⟩
 ·rw [if_neg c3] at H
  exact absurd H (by simp)

/-! ### codesearchlaw33_small: function 8 -/
def codesearchlaw33_small.l0 : Nat → List (S37) → Int → Option (Bool)
|0,_,_ => none
|k + 1,x0,x3 => if x3 < (x0.length : Int) then (if 0 ≤ x3 then (if (((rd_T37 x0 x3).f3).length : Int) > 40 then (some false) else (if (((rd_T37 x0 x3).f4).length : Int) > 40 then (some false) else (if (((rd_T37 x0 x3).f5).length : Int) > 40 then (some false) else (codesearchlaw33_small.l0 k x0 (wrap64 (x3 + 1)))))) else (none)) else (some true)
def codesearchlaw33_small.f (k : Nat) (l0 : List (S37)) : Option (Bool) := if (l0.length : Int) > 40 then (some false) else (codesearchlaw33_small.l0 k l0 0)
theorem codesearchlaw33_small.mono_l : ∀ k, (∀ y0 y1, LeO (codesearchlaw33_small.l0 k y0 y1) (codesearchlaw33_small.l0 (k + 1) y0 y1))
|0 => fun _ _ r h => by simp [codesearchlaw33_small.l0] at h
|k + 1 => by
  have ih0 := codesearchlaw33_small.mono_l k
  ·intro y0 y1
   unfold codesearchlaw33_small.l0
   repeat' (with_reducible first|exact ih0 _ _|exact LeO.refl _|exact LeO.none _|refine LeO.ite ?_ ?_|refine LeO.bind ?_ (fun _ => ?_))
theorem codesearchlaw33_small.mono : ∀ a0 k, LeO (codesearchlaw33_small.f k a0) (codesearchlaw33_small.f (k + 1) a0) := by
 intro a0 k
 have ih0 := codesearchlaw33_small.mono_l k
 unfold codesearchlaw33_small.f
 repeat' first
  |(with_reducible exact ih0 _ _)
  |(with_reducible exact LeO.refl _)
  |(with_reducible exact LeO.none _)
  |(with_reducible refine LeO.ite ?_ ?_)
  |(with_reducible refine LeO.bind ?_ (fun _ => ?_))
  |exact ih0 _ _
  |exact LeO.none _
  |refine LeO.ite ?_ ?_
  |refine LeO.bind ?_ (fun _ => ?_)
set_option maxHeartbeats 4000000 in
set_option maxRecDepth 100000 in
theorem codesearchlaw33_small.calls (k : Nat) (A0 : Option Addr) (c0 : Nat) (l0 : List (S37)) (r : Bool) (w : World) (hr0 : Kd.C k37 w A0 l0.length l0) (hc0 : l0.length ≤ c0) (h : codesearchlaw33_small.f k l0 = some r) :
  Calls Tryd.prog 8 #[.slice A0 l0.length c0] w fun e w' => e = .returned (.bool r) ∧ Drawn0 w w' := by
 have HR0 := aK hr0
 have HC0 := aK hc0
 clear hr0 hc0
 have H : (if (l0.length : Int) > 40 then (some false) else (codesearchlaw33_small.l0 k l0 0)) = some r := h
 clear h
 by_cases c2 : (l0.length : Int) > 40
 ·rw [if_pos c2] at H
  have c2b0 := decide_eq_true c2
  have c2b1 : decide (40 < l0.length) = true := decide_eq_true (by omega)
  clear c2
  obtain rfl := Option.some.inj H
  go_enter Tryd.func8,Tryd.ntmps8
  go_wp2
  go_ret
  exact ⟨by first|rfl|(simp;done)|(simp [*];done),by repeat (first|exact Drawn0.refl _|apply Drawn0.step)⟩
 ·rw [if_neg c2] at H
  have c2b0 := decide_eq_false c2
  have c2b1 : decide (40 < l0.length) = false := decide_eq_false (by omega)
  clear c2
  have H' := aK H
  clear H
  go_enter Tryd.func8,Tryd.ntmps8
  go_wp2
  go_loopg [3] k (fun kq v3 w' => ∃ (x3_1 : Int),v3 = .int .i64 x3_1 ∧ Aside0 (codesearchlaw33_small.l0 kq l0 x3_1 = some r) ∧ Aside0 (kq ≤ k) ∧ Drawn0 w w')
  case atStart => exact ⟨(0),(by first|rfl|(simp;done)|(simp [*];done)),H',⟨Nat.le_refl _⟩,by repeat (first|exact Drawn0.refl _|apply Drawn0.step)⟩
  case round =>
   clear H'
   try clear c2
   try clear c2b0
   try clear c2b1
   try clear p2
   obtain ⟨x3_1,rfl,HA,HK1,⟨m1,rfl⟩⟩ := hrel
   cases gk with
  |zero => exact absurd HA.out (by simp [codesearchlaw33_small.l0])
  |succ k1 =>
    have H := HA.out
    clear HA
    simp only [codesearchlaw33_small.l0] at H
    by_cases c3 : x3_1 < (l0.length : Int)
    ·rw [if_pos c3] at H
     have c3b0 := decide_eq_true c3
     clear c3
     obtain ⟨c4,H⟩ := iS H
     have c4b0 := decide_eq_true c4
     clear c4
     by_cases c5 : (((rd_T37 l0 x3_1).f3).length : Int) > 40
     ·rw [if_pos c5] at H
      have c5b0 := decide_eq_true c5
      have c5b1 : decide (40 < ((rd_T37 l0 x3_1).f3).length) = true := decide_eq_true (by omega)
      clear c5
      obtain rfl := Option.some.inj H
      have p444 : 0 ≤ (x3_1 : Int) := of_decide_eq_true (by assumption)
      have q444 : x3_1 < (l0.length : Int) := of_decide_eq_true (by assumption)
      obtain ⟨ad444,A444_3,c444_3,A444_4,c444_4,A444_5,c444_5,e444,hx444_0,hx444_1,hx444_2,hx444_3,hx444_4,hx444_5,hl444_3,hi444_3,hl444_4,hi444_4,hl444_5,hi444_5⟩ := at_T37 HR0.out x3_1 p444 q444
      cases e444
      have HR444_3 := aK hi444_3
      have HC444_3 := aK hl444_3
      clear hi444_3 hl444_3
      have HR444_4 := aK hi444_4
      have HC444_4 := aK hl444_4
      clear hi444_4 hl444_4
      have HR444_5 := aK hi444_5
      have HC444_5 := aK hl444_5
      clear hi444_5 hl444_5
      replace p444 := eq_true p444
      replace q444 := eq_true q444
      go_wp2
      go_ret
      exact ⟨by first|rfl|(simp;done)|(simp [*];done),by repeat (first|exact Drawn0.refl _|apply Drawn0.step)⟩
     ·rw [if_neg c5] at H
      have c5b0 := decide_eq_false c5
      have c5b1 : decide (40 < ((rd_T37 l0 x3_1).f3).length) = false := decide_eq_false (by omega)
      clear c5
      by_cases c6 : (((rd_T37 l0 x3_1).f4).length : Int) > 40
      ·rw [if_pos c6] at H
       have c6b0 := decide_eq_true c6
       have c6b1 : decide (40 < ((rd_T37 l0 x3_1).f4).length) = true := decide_eq_true (by omega)
       clear c6
       obtain rfl := Option.some.inj H
       have p444 : 0 ≤ (x3_1 : Int) := of_decide_eq_true (by assumption)
       have q444 : x3_1 < (l0.length : Int) := of_decide_eq_true (by assumption)
       obtain ⟨ad444,A444_3,c444_3,A444_4,c444_4,A444_5,c444_5,e444,hx444_0,hx444_1,hx444_2,hx444_3,hx444_4,hx444_5,hl444_3,hi444_3,hl444_4,hi444_4,hl444_5,hi444_5⟩ := at_T37 HR0.out x3_1 p444 q444
       cases e444
       have HR444_3 := aK hi444_3
       have HC444_3 := aK hl444_3
       clear hi444_3 hl444_3
       have HR444_4 := aK hi444_4
       have HC444_4 := aK hl444_4
       clear hi444_4 hl444_4
       have HR444_5 := aK hi444_5
       have HC444_5 := aK hl444_5
       clear hi444_5 hl444_5
       replace p444 := eq_true p444
       replace q444 := eq_true q444
       have p445 : 0 ≤ (x3_1 : Int) := of_decide_eq_true (by assumption)
       have q445 : x3_1 < (l0.length : Int) := of_decide_eq_true (by assumption)
       obtain ⟨ad445,A445_3,c445_3,A445_4,c445_4,A445_5,c445_5,e445,hx445_0,hx445_1,hx445_2,hx445_3,hx445_4,hx445_5,hl445_3,hi445_3,hl445_4,hi445_4,hl445_5,hi445_5⟩ := at_T37 HR0.out x3_1 p445 q445
       obtain rfl : ad444 = ad445 := (by injection e445)
       have HR445_3 := aK hi445_3
       have HC445_3 := aK hl445_3
       clear hi445_3 hl445_3
       have HR445_4 := aK hi445_4
       have HC445_4 := aK hl445_4
       clear hi445_4 hl445_4
       have HR445_5 := aK hi445_5
       have HC445_5 := aK hl445_5
       clear hi445_5 hl445_5
       replace p445 := eq_true p445
       replace q445 := eq_true q445
       have ea_ := Option.some.inj (hx444_3.symm.trans hx445_3)
       injection ea_ with ea_ en_ ec_
       subst ea_
       subst ec_
       clear en_
       have ea_ := Option.some.inj (hx444_4.symm.trans hx445_4)
       injection ea_ with ea_ en_ ec_
       subst ea_
       subst ec_
       clear en_
       have ea_ := Option.some.inj (hx444_5.symm.trans hx445_5)
       injection ea_ with ea_ en_ ec_
       subst ea_
       subst ec_
       clear en_
       go_wp2
       go_ret
       exact ⟨by first|rfl|(simp;done)|(simp [*];done),by repeat (first|exact Drawn0.refl _|apply Drawn0.step)⟩
      ·rw [if_neg c6] at H
       have c6b0 := decide_eq_false c6
       have c6b1 : decide (40 < ((rd_T37 l0 x3_1).f4).length) = false := decide_eq_false (by omega)
       clear c6
       by_cases c7 : (((rd_T37 l0 x3_1).f5).length : Int) > 40
       ·rw [if_pos c7] at H
        have c7b0 := decide_eq_true c7
        have c7b1 : decide (40 < ((rd_T37 l0 x3_1).f5).length) = true := decide_eq_true (by omega)
        clear c7
        obtain rfl := Option.some.inj H
        have p444 : 0 ≤ (x3_1 : Int) := of_decide_eq_true (by assumption)
        have q444 : x3_1 < (l0.length : Int) := of_decide_eq_true (by assumption)
        obtain ⟨ad444,A444_3,c444_3,A444_4,c444_4,A444_5,c444_5,e444,hx444_0,hx444_1,hx444_2,hx444_3,hx444_4,hx444_5,hl444_3,hi444_3,hl444_4,hi444_4,hl444_5,hi444_5⟩ := at_T37 HR0.out x3_1 p444 q444
        cases e444
        have HR444_3 := aK hi444_3
        have HC444_3 := aK hl444_3
        clear hi444_3 hl444_3
        have HR444_4 := aK hi444_4
        have HC444_4 := aK hl444_4
        clear hi444_4 hl444_4
        have HR444_5 := aK hi444_5
        have HC444_5 := aK hl444_5
        clear hi444_5 hl444_5
        replace p444 := eq_true p444
        replace q444 := eq_true q444
        have p445 : 0 ≤ (x3_1 : Int) := of_decide_eq_true (by assumption)
        have q445 : x3_1 < (l0.length : Int) := of_decide_eq_true (by assumption)
        obtain ⟨ad445,A445_3,c445_3,A445_4,c445_4,A445_5,c445_5,e445,hx445_0,hx445_1,hx445_2,hx445_3,hx445_4,hx445_5,hl445_3,hi445_3,hl445_4,hi445_4,hl445_5,hi445_5⟩ := at_T37 HR0.out x3_1 p445 q445
        obtain rfl : ad444 = ad445 := (by injection e445)
        have HR445_3 := aK hi445_3
        have HC445_3 := aK hl445_3
        clear hi445_3 hl445_3
        have HR445_4 := aK hi445_4
        have HC445_4 := aK hl445_4
        clear hi445_4 hl445_4
        have HR445_5 := aK hi445_5
        have HC445_5 := aK hl445_5
        clear hi445_5 hl445_5
        replace p445 := eq_true p445
        replace q445 := eq_true q445
        have ea_ := Option.some.inj (hx444_3.symm.trans hx445_3)
        injection ea_ with ea_ en_ ec_
        subst ea_
        subst ec_
        clear en_
        have ea_ := Option.some.inj (hx444_4.symm.trans hx445_4)
        injection ea_ with ea_ en_ ec_
        subst ea_
        subst ec_
        clear en_
        have ea_ := Option.some.inj (hx444_5.symm.trans hx445_5)
        injection ea_ with ea_ en_ ec_
        subst ea_
        subst ec_
        clear en_
        have p446 : 0 ≤ (x3_1 : Int) := of_decide_eq_true (by assumption)
        have q446 : x3_1 < (l0.length : Int) := of_decide_eq_true (by assumption)
        obtain ⟨ad446,A446_3,c446_3,A446_4,c446_4,A446_5,c446_5,e446,hx446_0,hx446_1,hx446_2,hx446_3,hx446_4,hx446_5,hl446_3,hi446_3,hl446_4,hi446_4,hl446_5,hi446_5⟩ := at_T37 HR0.out x3_1 p446 q446
        obtain rfl : ad444 = ad446 := (by injection e446)
        have HR446_3 := aK hi446_3
        have HC446_3 := aK hl446_3
        clear hi446_3 hl446_3
        have HR446_4 := aK hi446_4
        have HC446_4 := aK hl446_4
        clear hi446_4 hl446_4
        have HR446_5 := aK hi446_5
        have HC446_5 := aK hl446_5
        clear hi446_5 hl446_5
        replace p446 := eq_true p446
        replace q446 := eq_true q446
        have ea_ := Option.some.inj (hx444_3.symm.trans hx446_3)
        injection ea_ with ea_ en_ ec_
        subst ea_
        subst ec_
        clear en_
        have ea_ := Option.some.inj (hx444_4.symm.trans hx446_4)
        injection ea_ with ea_ en_ ec_
        subst ea_
        subst ec_
        clear en_
        have ea_ := Option.some.inj (hx444_5.symm.trans hx446_5)
        injection ea_ with ea_ en_ ec_
        subst ea_
        subst ec_
        clear en_
        go_wp2
        go_ret
        exact ⟨by first|rfl|(simp;done)|(simp [*];done),by repeat (first|exact Drawn0.refl _|apply Drawn0.step)⟩
       ·rw [if_neg c7] at H
        have c7b0 := decide_eq_false c7
        have c7b1 : decide (40 < ((rd_T37 l0 x3_1).f5).length) = false := decide_eq_false (by omega)
        clear c7
        have H' := aK H
        clear H
        have p444 : 0 ≤ (x3_1 : Int) := of_decide_eq_true (by assumption)
        have q444 : x3_1 < (l0.length : Int) := of_decide_eq_true (by assumption)
        obtain ⟨ad444,A444_3,c444_3,A444_4,c444_4,A444_5,c444_5,e444,hx444_0,hx444_1,hx444_2,hx444_3,hx444_4,hx444_5,hl444_3,hi444_3,hl444_4,hi444_4,hl444_5,hi444_5⟩ := at_T37 HR0.out x3_1 p444 q444
        cases e444
        have HR444_3 := aK hi444_3
        have HC444_3 := aK hl444_3
        clear hi444_3 hl444_3
        have HR444_4 := aK hi444_4
        have HC444_4 := aK hl444_4
        clear hi444_4 hl444_4
        have HR444_5 := aK hi444_5
        have HC444_5 := aK hl444_5
        clear hi444_5 hl444_5
        replace p444 := eq_true p444
        replace q444 := eq_true q444
        have p445 : 0 ≤ (x3_1 : Int) := of_decide_eq_true (by assumption)
        have q445 : x3_1 < (l0.length : Int) := of_decide_eq_true (by assumption)
        obtain ⟨ad445,A445_3,c445_3,A445_4,c445_4,A445_5,c445_5,e445,hx445_0,hx445_1,hx445_2,hx445_3,hx445_4,hx445_5,hl445_3,hi445_3,hl445_4,hi445_4,hl445_5,hi445_5⟩ := at_T37 HR0.out x3_1 p445 q445
        obtain rfl : ad444 = ad445 := (by injection e445)
        have HR445_3 := aK hi445_3
        have HC445_3 := aK hl445_3
        clear hi445_3 hl445_3
        have HR445_4 := aK hi445_4
        have HC445_4 := aK hl445_4
        clear hi445_4 hl445_4
        have HR445_5 := aK hi445_5
        have HC445_5 := aK hl445_5
        clear hi445_5 hl445_5
        replace p445 := eq_true p445
        replace q445 := eq_true q445
        have ea_ := Option.some.inj (hx444_3.symm.trans hx445_3)
        injection ea_ with ea_ en_ ec_
        subst ea_
        subst ec_
        clear en_
        have ea_ := Option.some.inj (hx444_4.symm.trans hx445_4)
        injection ea_ with ea_ en_ ec_
        subst ea_
        subst ec_
        clear en_
        have ea_ := Option.some.inj (hx444_5.symm.trans hx445_5)
        injection ea_ with ea_ en_ ec_
        subst ea_
        subst ec_
        clear en_
        have p446 : 0 ≤ (x3_1 : Int) := of_decide_eq_true (by assumption)
        have q446 : x3_1 < (l0.length : Int) := of_decide_eq_true (by assumption)
        obtain ⟨ad446,A446_3,c446_3,A446_4,c446_4,A446_5,c446_5,e446,hx446_0,hx446_1,hx446_2,hx446_3,hx446_4,hx446_5,hl446_3,hi446_3,hl446_4,hi446_4,hl446_5,hi446_5⟩ := at_T37 HR0.out x3_1 p446 q446
        obtain rfl : ad444 = ad446 := (by injection e446)
        have HR446_3 := aK hi446_3
        have HC446_3 := aK hl446_3
        clear hi446_3 hl446_3
        have HR446_4 := aK hi446_4
        have HC446_4 := aK hl446_4
        clear hi446_4 hl446_4
        have HR446_5 := aK hi446_5
        have HC446_5 := aK hl446_5
        clear hi446_5 hl446_5
        replace p446 := eq_true p446
        replace q446 := eq_true q446
        have ea_ := Option.some.inj (hx444_3.symm.trans hx446_3)
        injection ea_ with ea_ en_ ec_
        subst ea_
        subst ec_
        clear en_
        have ea_ := Option.some.inj (hx444_4.symm.trans hx446_4)
        injection ea_ with ea_ en_ ec_
        subst ea_
        subst ec_
        clear en_
        have ea_ := Option.some.inj (hx444_5.symm.trans hx446_5)
        injection ea_ with ea_ en_ ec_
        subst ea_
        subst ec_
        clear en_
        go_wp2
        go_roundg k1
        case measure => have := HK1.out;omega
        case rel => exact ⟨(wrap64 (x3_1 + 1)),(by first|rfl|(simp;done)|(simp [*];done)),H',⟨by have := HK1.out;omega⟩,by repeat (first|exact Drawn0.refl _|apply Drawn0.step)⟩
    ·rw [if_neg c3] at H
     have c3b0 := decide_eq_false c3
     clear c3
     obtain rfl := Option.some.inj H
     go_wp2
     go_ret
     exact ⟨by first|rfl|(simp;done)|(simp [*];done),by repeat (first|exact Drawn0.refl _|apply Drawn0.step)⟩

end Go.Proofs.YtmgliocboeifdaaDoor.T
