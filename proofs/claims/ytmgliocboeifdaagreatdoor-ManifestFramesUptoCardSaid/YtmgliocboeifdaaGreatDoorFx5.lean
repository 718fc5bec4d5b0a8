import Derived.Test.YtmgliocboeifdaaGreatDoorFx0
import Derived.Test.YtmgliocboeifdaaGreatDoorFx2
import Derived.Test.YtmgliocboeifdaaGreatDoorFx4
import Derived.Test.YtmgliocboeifdaaGreatDoorFx11
namespace Go.Proofs.YtmgliocboeifdaaGreatDoor.F
open Go.RowKit Go.Proofs.YtmgliocboeifdaaGreatDoorW.PrintWords Go.Proofs.YtmgliocboeifdaaGreatDoorW.PrintLast Go.Proofs.YtmgliocboeifdaaGreatDoorW.PrintMore
attribute [local go_sem] max2_int min2_int max_two min_two max_three min_three max_four min_four
set_option linter.unusedVariables false
set_option linter.unusedSimpArgs false
mutual
def manifest_fields.j0 : Nat → Bool → Int → Int → Int → List Int → List Int → List ByteArray → Option (Bool)
|0,_,_,_,_,_,_,_ => none
|k + 1,x3,ab,aa,ac,ad,ae,af => if aa = 2 then (manifest_fields.j1 k x3 true ab aa ac ad ae af) else (manifest_fields.j1 k x3 (aa == 4) ab aa ac ad ae af)
def manifest_fields.j1 : Nat → Bool → Bool → Int → Int → Int → List Int → List Int → List ByteArray → Option (Bool)
|0,_,_,_,_,_,_,_,_ => none
|k + 1,x3,x4,ab,aa,ac,ad,ae,af => if aa < 1 then (manifest_fields.j2 k x3 x4 true ab aa ac ad ae af) else (manifest_fields.j2 k x3 x4 (decide (aa > 4)) ab aa ac ad ae af)
def manifest_fields.j2 : Nat → Bool → Bool → Bool → Int → Int → Int → List Int → List Int → List ByteArray → Option (Bool)
|0,_,_,_,_,_,_,_,_,_ => none
|k + 1,x3,x4,ag,ab,ac,aa,ad,ae,af => if ag = true then (some false) else (if x3 = true then (manifest_fields.j3 k x3 x4 false ab ac aa ad ae af) else (manifest_fields.j3 k x3 x4 (aa != 0) ab ac aa ad ae af))
def manifest_fields.j3 : Nat → Bool → Bool → Bool → Int → Int → Int → List Int → List Int → List ByteArray → Option (Bool)
|0,_,_,_,_,_,_,_,_,_ => none
|k + 1,x3,x4,ag,ab,ac,ad,aa,ae,af => if ag = true then (manifest_fields.j4 k x3 ag ab ac ad aa ae af) else (if x4 = true then (manifest_fields.j4 k x3 false ab ac ad aa ae af) else (manifest_fields.j4 k x3 (decide ((aa.length : Int) > 0)) ab ac ad aa ae af))
def manifest_fields.j4 : Nat → Bool → Bool → Int → Int → Int → List Int → List Int → List ByteArray → Option (Bool)
|0,_,_,_,_,_,_,_,_ => none
|k + 1,x3,ag,ac,aa,ad,ae,ab,af => if ag = true then (some false) else (if aa = 3 then (manifest_fields.j5 k x3 false ac aa ad ae ab af) else (manifest_fields.j5 k x3 (decide ((ab.length : Int) > 0)) ac aa ad ae ab af))
def manifest_fields.j5 : Nat → Bool → Bool → Int → Int → Int → List Int → List Int → List ByteArray → Option (Bool)
|0,_,_,_,_,_,_,_,_ => none
|k + 1,x3,ag,ac,aa,ad,ae,af,ab => if ag = true then (manifest_fields.j6 k x3 ag ac aa ad ae af ab) else (if aa = 4 then (manifest_fields.j6 k x3 false ac aa ad ae af ab) else (manifest_fields.j6 k x3 (decide ((ab.length : Int) > 0)) ac aa ad ae af ab))
def manifest_fields.j6 : Nat → Bool → Bool → Int → Int → Int → List Int → List Int → List ByteArray → Option (Bool)
|0,_,_,_,_,_,_,_,_ => none
|k + 1,x3,ag,ab,ac,aa,ad,ae,af => if ag = true then (some false) else (if x3 = true then (if aa < 1 then (manifest_fields.j7 k true ab ac aa ad ae af) else (manifest_fields.j7 k (decide (aa > 9999)) ab ac aa ad ae af)) else (manifest_fields.j7 k false ab ac aa ad ae af))
def manifest_fields.j7 : Nat → Bool → Int → Int → Int → List Int → List Int → List ByteArray → Option (Bool)
|0,_,_,_,_,_,_,_ => none
|k + 1,aj,ae,ab,af,aa,ac,ad => if aj = true then (some false) else ((posting_Valid.f k aa).bind fun ag => (if ag = true then ((posting_Valid.f k ac).bind fun ah => (if ah = true then (if ab = 4 then (if (aa.length : Int) < 2 then ((manifest_branches.f k ad).bind fun ai => (some ai)) else (some false)) else (some true)) else (some false))) else (some false)))
end
def manifest_fields.f (k : Nat) (ab : Int) (aa : Int) (ac : Int) (ad : List Int) (ae : List Int) (af : List ByteArray) : Option (Bool) := if aa = 1 then (manifest_fields.j0 k true ab aa ac ad ae af) else (manifest_fields.j0 k (aa == 3) ab aa ac ad ae af)
theorem manifest_fields.mono_l : ∀ k, (∀ y0 y1 y2 y3 y4 y5 y6, LeO (manifest_fields.j0 k y0 y1 y2 y3 y4 y5 y6) (manifest_fields.j0 (k + 1) y0 y1 y2 y3 y4 y5 y6)) ∧ (∀ y0 y1 y2 y3 y4 y5 y6 y7, LeO (manifest_fields.j1 k y0 y1 y2 y3 y4 y5 y6 y7) (manifest_fields.j1 (k + 1) y0 y1 y2 y3 y4 y5 y6 y7)) ∧ (∀ y0 y1 y2 y3 y4 y5 y6 y7 y8, LeO (manifest_fields.j2 k y0 y1 y2 y3 y4 y5 y6 y7 y8) (manifest_fields.j2 (k + 1) y0 y1 y2 y3 y4 y5 y6 y7 y8)) ∧ (∀ y0 y1 y2 y3 y4 y5 y6 y7 y8, LeO (manifest_fields.j3 k y0 y1 y2 y3 y4 y5 y6 y7 y8) (manifest_fields.j3 (k + 1) y0 y1 y2 y3 y4 y5 y6 y7 y8)) ∧ (∀ y0 y1 y2 y3 y4 y5 y6 y7, LeO (manifest_fields.j4 k y0 y1 y2 y3 y4 y5 y6 y7) (manifest_fields.j4 (k + 1) y0 y1 y2 y3 y4 y5 y6 y7)) ∧ (∀ y0 y1 y2 y3 y4 y5 y6 y7, LeO (manifest_fields.j5 k y0 y1 y2 y3 y4 y5 y6 y7) (manifest_fields.j5 (k + 1) y0 y1 y2 y3 y4 y5 y6 y7)) ∧ (∀ y0 y1 y2 y3 y4 y5 y6 y7, LeO (manifest_fields.j6 k y0 y1 y2 y3 y4 y5 y6 y7) (manifest_fields.j6 (k + 1) y0 y1 y2 y3 y4 y5 y6 y7)) ∧ (∀ y0 y1 y2 y3 y4 y5 y6, LeO (manifest_fields.j7 k y0 y1 y2 y3 y4 y5 y6) (manifest_fields.j7 (k + 1) y0 y1 y2 y3 y4 y5 y6))
|0 => ⟨fun _ _ _ _ _ _ _ r h => by simp [manifest_fields.j0] at h,fun _ _ _ _ _ _ _ _ r h => by simp [manifest_fields.j1] at h,fun _ _ _ _ _ _ _ _ _ r h => by simp [manifest_fields.j2] at h,fun _ _ _ _ _ _ _ _ _ r h => by simp [manifest_fields.j3] at h,fun _ _ _ _ _ _ _ _ r h => by simp [manifest_fields.j4] at h,fun _ _ _ _ _ _ _ _ r h => by simp [manifest_fields.j5] at h,fun _ _ _ _ _ _ _ _ r h => by simp [manifest_fields.j6] at h,fun _ _ _ _ _ _ _ r h => by simp [manifest_fields.j7] at h⟩
|k + 1 => by
  obtain ⟨ih0,ih1,ih2,ih3,ih4,ih5,ih6,ih7⟩ := manifest_fields.mono_l k
  refine ⟨?_,?_,?_,?_,?_,?_,?_,?_⟩
  ·intro y0 y1 y2 y3 y4 y5 y6
   unfold manifest_fields.j0
   repeat' (with_reducible first|exact ih1 _ _ _ _ _ _ _ _|exact LeO.refl _|exact LeO.none _|refine LeO.ite ?_ ?_|refine LeO.bind ?_ (fun _ => ?_))
  ·intro y0 y1 y2 y3 y4 y5 y6 y7
   unfold manifest_fields.j1
   repeat' (with_reducible first|exact ih2 _ _ _ _ _ _ _ _ _|exact LeO.refl _|exact LeO.none _|refine LeO.ite ?_ ?_|refine LeO.bind ?_ (fun _ => ?_))
  ·intro y0 y1 y2 y3 y4 y5 y6 y7 y8
   unfold manifest_fields.j2
   repeat' (with_reducible first|exact ih3 _ _ _ _ _ _ _ _ _|exact LeO.refl _|exact LeO.none _|refine LeO.ite ?_ ?_|refine LeO.bind ?_ (fun _ => ?_))
  ·intro y0 y1 y2 y3 y4 y5 y6 y7 y8
   unfold manifest_fields.j3
   repeat' (with_reducible first|exact ih4 _ _ _ _ _ _ _ _|exact LeO.refl _|exact LeO.none _|refine LeO.ite ?_ ?_|refine LeO.bind ?_ (fun _ => ?_))
  ·intro y0 y1 y2 y3 y4 y5 y6 y7
   unfold manifest_fields.j4
   repeat' (with_reducible first|exact ih5 _ _ _ _ _ _ _ _|exact LeO.refl _|exact LeO.none _|refine LeO.ite ?_ ?_|refine LeO.bind ?_ (fun _ => ?_))
  ·intro y0 y1 y2 y3 y4 y5 y6 y7
   unfold manifest_fields.j5
   repeat' (with_reducible first|exact ih6 _ _ _ _ _ _ _ _|exact LeO.refl _|exact LeO.none _|refine LeO.ite ?_ ?_|refine LeO.bind ?_ (fun _ => ?_))
  ·intro y0 y1 y2 y3 y4 y5 y6 y7
   unfold manifest_fields.j6
   repeat' (with_reducible first|exact ih7 _ _ _ _ _ _ _|exact LeO.refl _|exact LeO.none _|refine LeO.ite ?_ ?_|refine LeO.bind ?_ (fun _ => ?_))
  ·intro y0 y1 y2 y3 y4 y5 y6
   unfold manifest_fields.j7
   repeat' (with_reducible first|exact manifest_branches.mono _ _|exact posting_Valid.mono _ _|exact LeO.refl _|exact LeO.none _|refine LeO.ite ?_ ?_|refine LeO.bind ?_ (fun _ => ?_))
theorem manifest_fields.mono : ∀ a0 a1 a2 a3 a4 a5 k, LeO (manifest_fields.f k a0 a1 a2 a3 a4 a5) (manifest_fields.f (k + 1) a0 a1 a2 a3 a4 a5) := by
 intro a0 a1 a2 a3 a4 a5 k
 obtain ⟨ih0,ih1,ih2,ih3,ih4,ih5,ih6,ih7⟩ := manifest_fields.mono_l k
 unfold manifest_fields.f
 repeat' (with_reducible first|exact ih0 _ _ _ _ _ _ _|exact ih1 _ _ _ _ _ _ _ _|exact ih2 _ _ _ _ _ _ _ _ _|exact ih3 _ _ _ _ _ _ _ _ _|exact ih4 _ _ _ _ _ _ _ _|exact ih5 _ _ _ _ _ _ _ _|exact ih6 _ _ _ _ _ _ _ _|exact ih7 _ _ _ _ _ _ _|exact manifest_branches.mono _ _|exact posting_Valid.mono _ _|exact LeO.refl _|exact LeO.none _|refine LeO.ite ?_ ?_|refine LeO.bind ?_ (fun _ => ?_))
set_option maxHeartbeats 4000000 in
set_option maxRecDepth 100000 in
theorem manifest_fields.calls (k : Nat) (ai : Int) (ac : Int) (ah : Int) (aj : Option Addr) (ak : Nat) (ab : List Int) (an : Option Addr) (ao : Nat) (ad : List Int) (ap : Option Addr) (aq : Nat) (ag : List ByteArray) (r : Bool) (w : World) (aT : Kd.C (Kd.int .i64) w aj ab.length ab) (aU : ab.length ≤ ak) (aV : Kd.C (Kd.int .i64) w an ad.length ad) (aW : ad.length ≤ ao) (aX : Kd.C Kd.string w ap ag.length ag) (aY : ag.length ≤ aq) (h : manifest_fields.f k ai ac ah ab ad ag = some r) :
  Calls Tryz.prog 52 #[.agg #[.int .i64 ai,.int .i64 ac,.int .i64 ah,.slice aj ab.length ak,.slice an ad.length ao,.slice ap ag.length aq]] w fun e w' => e = .returned (.bool r) ∧ Below w.heap.size w w' := by
 have bR := Tryz.underlying30
 have aB := aK aT
 have aC := aK aU
 clear aT aU
 have aL := aK aV
 have aM := aK aW
 clear aV aW
 have bd := aK aX
 have be := aK aY
 clear aX aY
 have HB := aK (Below.refl w.heap.size w)
 have H : (if ac = 1 then (manifest_fields.j0 k true ai ac ah ab ad ag) else (manifest_fields.j0 k (ac == 3) ai ac ah ab ad ag)) = some r := h
 clear h
 have bH := aK H
 clear H
 go_enter Tryz.func52,Tryz.ntmps52
 go_upto_region 1 with (first|((with_reducible refine gate_dst (N := 1) rfl ?_);(try (refine gate_guard (by rfl) ?_;dsimp only));refine box_event ?hg (N := 1) ?hd (cs := #[.int .i64 ai,.int .i64 ac,.int .i64 ah,.slice aj ab.length ak,.slice an ad.length ao,.slice ap ag.length aq]) (t := 30) ?hr ?_;(case hd => rfl);(case hg => rfl);(case hr => first|(go_simp;done)|(go_simp;rfl));intro al hg w3 hbox hb;have aa := aK (hbox);have bf := aK ((by rw [hg];exact (below_size (bM HB.out)) : w.heap.size ≤ al));have bP := Ge.mk bf.out;have bg := aK ((by rw [hg];exact (below_size (bM HB.out)) : w.heap.size ≤ al));have bQ := Ge.mk bg.out;replace HB := aK (below_step (bM HB.out) hb);clear hb hbox hg))
 (try simp only [Act.put,z1_,z2_,z3_])
 go_cut [3] (fun v3 wc => ∃ (kq : Nat) (ar : Bool),v3 = .bool ar ∧ Aside0 (manifest_fields.j0 kq ar ai ac ah ab ad ag = some r) ∧ Aside0 (kq ≤ k) ∧ Aside0 (wc.heap[al]? = some (.cells #[.int .i64 ai,.int .i64 ac,.int .i64 ah,(.slice aj ab.length ak),(.slice an ad.length ao),(.slice ap ag.length aq)] 30 (0,0))) ∧ Aside0 (Below w.heap.size w wc))
 case first =>
  have H := bH.out
  clear bH
  by_cases c4 : ac = 1
  ·rw [if_pos c4] at H
   have aP := beq_iff_eq.mpr c4
   have aZ := bne_eq_false_iff_eq.mpr c4
   clear c4
   (first|rw [aP]|(simp only [i64_w,i32_w];rw [aP])|rw [aZ]|skip)
   have H' := aK H
   clear H
   obtain ⟨_,_,_,_,_,_,_,_,_,_,_,_⟩ := bk6_ aa.out
   go_wp2
   go_meet
   case rel => exact ⟨_,(true),(by first|rfl|(simp;done)|(simp [*];done)),H',⟨by first|omega|exact Nat.le_refl _⟩,⟨kM aa.out⟩,⟨bG HB.out⟩⟩
  ·rw [if_neg c4] at H
   have aP := beq_eq_false_iff_ne.mpr c4
   have aZ := bne_iff_ne.mpr c4
   (first|rw [aP]|(simp only [i64_w,i32_w];rw [aP])|rw [aZ]|skip)
   have H' := aK H
   clear H
   obtain ⟨_,_,_,_,_,_,_,_,_,_,_,_⟩ := bk6_ aa.out
   go_wp2
   go_meet
   case rel => exact ⟨_,((ac == 3)),(by first|rfl|(simp;done)|(simp [*];done)),H',⟨by first|omega|exact Nat.le_refl _⟩,⟨kM aa.out⟩,⟨bG HB.out⟩⟩
 case rest =>
  clear bH
  try clear p2
  obtain ⟨kq,ar,rfl,HA,aD,aa,HB⟩ := hcut
  cases kq with
 |zero => exact absurd HA.out (by simp [manifest_fields.j0])
 |succ kj1 =>
   have H := HA.out
   clear HA
   simp only [manifest_fields.j0] at H
   have bI := aK H
   clear H
   go_upto_region 2 with (fail)
   go_cut [4] (fun v4 wc => ∃ (kq : Nat) (aN : Bool),v4 = .bool aN ∧ Aside0 (manifest_fields.j1 kq ar aN ai ac ah ab ad ag = some r) ∧ Aside0 (kq ≤ kj1) ∧ Aside0 (wc.heap[al]? = some (.cells #[.int .i64 ai,.int .i64 ac,.int .i64 ah,(.slice aj ab.length ak),(.slice an ad.length ao),(.slice ap ag.length aq)] 30 (0,0))) ∧ Aside0 (Below w.heap.size w wc))
   case first =>
    have H := bI.out
    clear bI
    by_cases c8 : ac = 2
    ·rw [if_pos c8] at H
     have aQ := beq_iff_eq.mpr c8
     have a0 := bne_eq_false_iff_eq.mpr c8
     clear c8
     (first|rw [aQ]|(simp only [i64_w,i32_w];rw [aQ])|rw [a0]|skip)
     have H' := aK H
     clear H
     obtain ⟨_,_,_,_,_,_,_,_,_,_,_,_⟩ := bk6_ aa.out
     go_wp2
     go_meet
     case rel => exact ⟨_,(true),(by first|rfl|(simp;done)|(simp [*];done)),H',⟨by have := aD.out;first|omega|exact Nat.le_refl _⟩,⟨kM aa.out⟩,⟨bG HB.out⟩⟩
    ·rw [if_neg c8] at H
     have aQ := beq_eq_false_iff_ne.mpr c8
     have a0 := bne_iff_ne.mpr c8
     (first|rw [aQ]|(simp only [i64_w,i32_w];rw [aQ])|rw [a0]|skip)
     have H' := aK H
     clear H
     obtain ⟨_,_,_,_,_,_,_,_,_,_,_,_⟩ := bk6_ aa.out
     go_wp2
     go_meet
     case rel => exact ⟨_,((ac == 4)),(by first|rfl|(simp;done)|(simp [*];done)),H',⟨by have := aD.out;first|omega|exact Nat.le_refl _⟩,⟨kM aa.out⟩,⟨bG HB.out⟩⟩
   case rest =>
    clear bI
    try clear p2
    try clear p2
    obtain ⟨kq,aN,rfl,HA,aJ,aa,HB⟩ := hcut
    cases kq with
   |zero => exact absurd HA.out (by simp [manifest_fields.j1])
   |succ kj6 =>
     have H := HA.out
     clear HA
     simp only [manifest_fields.j1] at H
     have a1 := aK H
     clear H
     go_upto_region 3 with (fail)
     go_cut [21] (fun bS wc => ∃ (kq : Nat) (av : Bool),bS = .bool av ∧ Aside0 (manifest_fields.j2 kq ar aN av ai ac ah ab ad ag = some r) ∧ Aside0 (kq ≤ kj6) ∧ Aside0 (wc.heap[al]? = some (.cells #[.int .i64 ai,.int .i64 ac,.int .i64 ah,(.slice aj ab.length ak),(.slice an ad.length ao),(.slice ap ag.length aq)] 30 (0,0))) ∧ Aside0 (Below w.heap.size w wc))
     case first =>
      have H := a1.out
      clear a1
      by_cases bb : ac < 1
      ·rw [if_pos bb] at H
       have aE := decide_eq_true bb
       clear bb
       (first|rw [aE]|(simp only [i64_w,i32_w];rw [aE])|rw [c12b1]|skip)
       have H' := aK H
       clear H
       obtain ⟨_,_,_,_,_,_,_,_,_,_,_,_⟩ := bk6_ aa.out
       go_wp2
       go_meet
       case rel => exact ⟨_,(true),(by first|rfl|(simp;done)|(simp [*];done)),H',⟨by have := aD.out;have := aJ.out;first|omega|exact Nat.le_refl _⟩,⟨kM aa.out⟩,⟨bG HB.out⟩⟩
      ·rw [if_neg bb] at H
       have aE := decide_eq_false bb
       clear bb
       (first|rw [aE]|(simp only [i64_w,i32_w];rw [aE])|rw [c12b1]|skip)
       have H' := aK H
       clear H
       obtain ⟨_,_,_,_,_,_,_,_,_,_,_,_⟩ := bk6_ aa.out
       go_wp2
       go_meet
       case rel => exact ⟨_,(decide (ac > 4)),(by first|rfl|(simp;done)|(simp [*];done)),H',⟨by have := aD.out;have := aJ.out;first|omega|exact Nat.le_refl _⟩,⟨kM aa.out⟩,⟨bG HB.out⟩⟩
     case rest =>
      clear a1
      try clear p2
      try clear p2
      obtain ⟨kq,av,rfl,HA,am,aa,HB⟩ := hcut
      cases kq with
     |zero => exact absurd HA.out (by simp [manifest_fields.j2])
     |succ kj10 =>
       have H := HA.out
       clear HA
       simp only [manifest_fields.j2] at H
       by_cases bh : av = true
       ·subst bh
        rw [if_pos rfl] at H
        obtain rfl := Option.some.inj H
        go_wp2
        go_ret
        exact ⟨by first|rfl|(simp [errW_none,errW_some] <;> rfl)|(simp [*,errW_none,errW_some] <;> rfl),bG HB.out⟩
       ·replace bh := Bool.eq_false_iff.mpr bh
        subst bh
        rw [if_neg (show ¬ (false = true) by decide)] at H
        have a2 := aK H
        clear H
        go_upto_region 5 with (fail)
        go_cut [30] (fun bJ wc => ∃ (kq : Nat) (aw : Bool),bJ = .bool aw ∧ Aside0 (manifest_fields.j3 kq ar aN aw ai ac ah ab ad ag = some r) ∧ Aside0 (kq ≤ kj10) ∧ Aside0 (wc.heap[al]? = some (.cells #[.int .i64 ai,.int .i64 ac,.int .i64 ah,(.slice aj ab.length ak),(.slice an ad.length ao),(.slice ap ag.length aq)] 30 (0,0))) ∧ Aside0 (Below w.heap.size w wc))
        case first =>
         have H := a2.out
         clear a2
         by_cases bu : ar = true
         ·subst bu
          rw [if_pos rfl] at H
          have H' := aK H
          clear H
          go_wp2
          go_meet
          case rel => exact ⟨_,(false),(by first|rfl|(simp;done)|(simp [*];done)),H',⟨by have := aD.out;have := aJ.out;have := am.out;first|omega|exact Nat.le_refl _⟩,⟨kM aa.out⟩,⟨bG HB.out⟩⟩
         ·replace bu := Bool.eq_false_iff.mpr bu
          subst bu
          rw [if_neg (show ¬ (false = true) by decide)] at H
          have H' := aK H
          clear H
          obtain ⟨_,_,_,_,_,_,_,_,_,_,_,_⟩ := bk6_ aa.out
          go_wp2
          go_meet
          case rel => exact ⟨_,((ah != 0)),(by first|rfl|(simp;done)|(simp [*];done)),H',⟨by have := aD.out;have := aJ.out;have := am.out;first|omega|exact Nat.le_refl _⟩,⟨kM aa.out⟩,⟨bG HB.out⟩⟩
        case rest =>
         clear a2
         try clear p2
         try clear bh
         try clear p2
         obtain ⟨kq,aw,rfl,HA,au,aa,HB⟩ := hcut
         cases kq with
        |zero => exact absurd HA.out (by simp [manifest_fields.j3])
        |succ kj15 =>
          have H := HA.out
          clear HA
          simp only [manifest_fields.j3] at H
          have a3 := aK H
          clear H
          go_upto_if 30 with (fail)
          go_cut [30] (fun bJ wc => ∃ (kq : Nat) (ax : Bool),bJ = .bool ax ∧ Aside0 (manifest_fields.j4 kq ar ax ai ac ah ab ad ag = some r) ∧ Aside0 (kq ≤ kj15) ∧ Aside0 (wc.heap[al]? = some (.cells #[.int .i64 ai,.int .i64 ac,.int .i64 ah,(.slice aj ab.length ak),(.slice an ad.length ao),(.slice ap ag.length aq)] 30 (0,0))) ∧ Aside0 (Below w.heap.size w wc))
          case first =>
           have H := a3.out
           clear a3
           by_cases bv : aw = true
           ·subst bv
            rw [if_pos rfl] at H
            have H' := aK H
            clear H
            go_wp2
            go_meet
            case rel => exact ⟨_,(true),(by first|rfl|(simp;done)|(simp [*];done)),H',⟨by have := aD.out;have := aJ.out;have := am.out;have := au.out;first|omega|exact Nat.le_refl _⟩,⟨kM aa.out⟩,⟨bG HB.out⟩⟩
           ·replace bv := Bool.eq_false_iff.mpr bv
            subst bv
            rw [if_neg (show ¬ (false = true) by decide)] at H
            by_cases bx : aN = true
            ·subst bx
             rw [if_pos rfl] at H
             have H' := aK H
             clear H
             go_wp2
             go_meet
             case rel => exact ⟨_,(false),(by first|rfl|(simp;done)|(simp [*];done)),H',⟨by have := aD.out;have := aJ.out;have := am.out;have := au.out;first|omega|exact Nat.le_refl _⟩,⟨kM aa.out⟩,⟨bG HB.out⟩⟩
            ·replace bx := Bool.eq_false_iff.mpr bx
             subst bx
             rw [if_neg (show ¬ (false = true) by decide)] at H
             have H' := aK H
             clear H
             obtain ⟨_,_,_,_,_,_,_,_,_,_,_,_⟩ := bk6_ aa.out
             go_wp2
             go_meet
             case rel => exact ⟨_,(decide ((ab.length : Int) > 0)),(by first|rfl|(simp;done)|(simp [*];done)),H',⟨by have := aD.out;have := aJ.out;have := am.out;have := au.out;first|omega|exact Nat.le_refl _⟩,⟨kM aa.out⟩,⟨bG HB.out⟩⟩
          case rest =>
           clear a3
           try clear p2
           try clear p2
           obtain ⟨kq,ax,rfl,HA,aF,aa,HB⟩ := hcut
           cases kq with
          |zero => exact absurd HA.out (by simp [manifest_fields.j4])
          |succ kj18 =>
            have H := HA.out
            clear HA
            simp only [manifest_fields.j4] at H
            by_cases bi : ax = true
            ·subst bi
             rw [if_pos rfl] at H
             obtain rfl := Option.some.inj H
             go_wp2
             go_ret
             exact ⟨by first|rfl|(simp [errW_none,errW_some] <;> rfl)|(simp [*,errW_none,errW_some] <;> rfl),bG HB.out⟩
            ·replace bi := Bool.eq_false_iff.mpr bi
             subst bi
             rw [if_neg (show ¬ (false = true) by decide)] at H
             have a4 := aK H
             clear H
             go_upto_region 8 with (fail)
             go_cut [46] (fun bK wc => ∃ (kq : Nat) (ay : Bool),bK = .bool ay ∧ Aside0 (manifest_fields.j5 kq ar ay ai ac ah ab ad ag = some r) ∧ Aside0 (kq ≤ kj18) ∧ Aside0 (wc.heap[al]? = some (.cells #[.int .i64 ai,.int .i64 ac,.int .i64 ah,(.slice aj ab.length ak),(.slice an ad.length ao),(.slice ap ag.length aq)] 30 (0,0))) ∧ Aside0 (Below w.heap.size w wc))
             case first =>
              have H := a4.out
              clear a4
              by_cases a5 : ac = 3
              ·rw [if_pos a5] at H
               have aG := beq_iff_eq.mpr a5
               have aR := bne_eq_false_iff_eq.mpr a5
               clear a5
               (first|rw [aG]|(simp only [i64_w,i32_w];rw [aG])|rw [aR]|skip)
               have H' := aK H
               clear H
               obtain ⟨_,_,_,_,_,_,_,_,_,_,_,_⟩ := bk6_ aa.out
               go_wp2
               go_meet
               case rel => exact ⟨_,(false),(by first|rfl|(simp;done)|(simp [*];done)),H',⟨by have := aD.out;have := aJ.out;have := am.out;have := au.out;have := aF.out;first|omega|exact Nat.le_refl _⟩,⟨kM aa.out⟩,⟨bG HB.out⟩⟩
              ·rw [if_neg a5] at H
               have aG := beq_eq_false_iff_ne.mpr a5
               have aR := bne_iff_ne.mpr a5
               (first|rw [aG]|(simp only [i64_w,i32_w];rw [aG])|rw [aR]|skip)
               have H' := aK H
               clear H
               obtain ⟨_,_,_,_,_,_,_,_,_,_,_,_⟩ := bk6_ aa.out
               go_wp2
               go_meet
               case rel => exact ⟨_,(decide ((ad.length : Int) > 0)),(by first|rfl|(simp;done)|(simp [*];done)),H',⟨by have := aD.out;have := aJ.out;have := am.out;have := au.out;have := aF.out;first|omega|exact Nat.le_refl _⟩,⟨kM aa.out⟩,⟨bG HB.out⟩⟩
             case rest =>
              clear a4
              try clear p2
              try clear bi
              try clear p2
              obtain ⟨kq,ay,rfl,HA,aO,aa,HB⟩ := hcut
              cases kq with
             |zero => exact absurd HA.out (by simp [manifest_fields.j5])
             |succ kj23 =>
               have H := HA.out
               clear HA
               simp only [manifest_fields.j5] at H
               have a6 := aK H
               clear H
               go_upto_if 46 with (fail)
               go_cut [46] (fun bK wc => ∃ (kq : Nat) (az : Bool),bK = .bool az ∧ Aside0 (manifest_fields.j6 kq ar az ai ac ah ab ad ag = some r) ∧ Aside0 (kq ≤ kj23) ∧ Aside0 (wc.heap[al]? = some (.cells #[.int .i64 ai,.int .i64 ac,.int .i64 ah,(.slice aj ab.length ak),(.slice an ad.length ao),(.slice ap ag.length aq)] 30 (0,0))) ∧ Aside0 (Below w.heap.size w wc))
               case first =>
                have H := a6.out
                clear a6
                by_cases bz : ay = true
                ·subst bz
                 rw [if_pos rfl] at H
                 have H' := aK H
                 clear H
                 go_wp2
                 go_meet
                 case rel => exact ⟨_,(true),(by first|rfl|(simp;done)|(simp [*];done)),H',⟨by have := aD.out;have := aJ.out;have := am.out;have := au.out;have := aF.out;have := aO.out;first|omega|exact Nat.le_refl _⟩,⟨kM aa.out⟩,⟨bG HB.out⟩⟩
                ·replace bz := Bool.eq_false_iff.mpr bz
                 subst bz
                 rw [if_neg (show ¬ (false = true) by decide)] at H
                 by_cases a7 : ac = 4
                 ·rw [if_pos a7] at H
                  have aH := beq_iff_eq.mpr a7
                  have aS := bne_eq_false_iff_eq.mpr a7
                  clear a7
                  (first|rw [aH]|(simp only [i64_w,i32_w];rw [aH])|rw [aS]|skip)
                  have H' := aK H
                  clear H
                  obtain ⟨_,_,_,_,_,_,_,_,_,_,_,_⟩ := bk6_ aa.out
                  go_wp2
                  go_meet
                  case rel => exact ⟨_,(false),(by first|rfl|(simp;done)|(simp [*];done)),H',⟨by have := aD.out;have := aJ.out;have := am.out;have := au.out;have := aF.out;have := aO.out;first|omega|exact Nat.le_refl _⟩,⟨kM aa.out⟩,⟨bG HB.out⟩⟩
                 ·rw [if_neg a7] at H
                  have aH := beq_eq_false_iff_ne.mpr a7
                  have aS := bne_iff_ne.mpr a7
                  (first|rw [aH]|(simp only [i64_w,i32_w];rw [aH])|rw [aS]|skip)
                  have H' := aK H
                  clear H
                  obtain ⟨_,_,_,_,_,_,_,_,_,_,_,_⟩ := bk6_ aa.out
                  go_wp2
                  go_meet
                  case rel => exact ⟨_,(decide ((ag.length : Int) > 0)),(by first|rfl|(simp;done)|(simp [*];done)),H',⟨by have := aD.out;have := aJ.out;have := am.out;have := au.out;have := aF.out;have := aO.out;first|omega|exact Nat.le_refl _⟩,⟨kM aa.out⟩,⟨bG HB.out⟩⟩
               case rest =>
                clear a6
                try clear p2
                try clear p2
                obtain ⟨kq,az,rfl,HA,a8,aa,HB⟩ := hcut
                cases kq with
               |zero => exact absurd HA.out (by simp [manifest_fields.j6])
               |succ kj27 =>
                 have H := HA.out
                 clear HA
                 simp only [manifest_fields.j6] at H
                 by_cases bj : az = true
                 ·subst bj
                  rw [if_pos rfl] at H
                  obtain rfl := Option.some.inj H
                  go_wp2
                  go_ret
                  exact ⟨by first|rfl|(simp [errW_none,errW_some] <;> rfl)|(simp [*,errW_none,errW_some] <;> rfl),bG HB.out⟩
                 ·replace bj := Bool.eq_false_iff.mpr bj
                  subst bj
                  rw [if_neg (show ¬ (false = true) by decide)] at H
                  have a9 := aK H
                  clear H
                  go_upto_region 11 with (fail)
                  go_cut [65] (fun bT wc => ∃ (kq : Nat) (aA : Bool),bT = .bool aA ∧ Aside0 (manifest_fields.j7 kq aA ai ac ah ab ad ag = some r) ∧ Aside0 (kq ≤ kj27) ∧ Aside0 (wc.heap[al]? = some (.cells #[.int .i64 ai,.int .i64 ac,.int .i64 ah,(.slice aj ab.length ak),(.slice an ad.length ao),(.slice ap ag.length aq)] 30 (0,0))) ∧ Aside0 (Below w.heap.size w wc))
                  case first =>
                   have H := a9.out
                   clear a9
                   by_cases bB : ar = true
                   ·subst bB
                    rw [if_pos rfl] at H
                    by_cases c36 : ah < 1
                    ·rw [if_pos c36] at H
                     have aI := decide_eq_true c36
                     clear c36
                     (first|rw [aI]|(simp only [i64_w,i32_w];rw [aI])|rw [c36b1]|skip)
                     have H' := aK H
                     clear H
                     obtain ⟨_,_,_,_,_,_,_,_,_,_,_,_⟩ := bk6_ aa.out
                     go_wp2
                     go_meet
                     case rel => exact ⟨_,(true),(by first|rfl|(simp;done)|(simp [*];done)),H',⟨by have := aD.out;have := aJ.out;have := am.out;have := au.out;have := aF.out;have := aO.out;have := a8.out;first|omega|exact Nat.le_refl _⟩,⟨kM aa.out⟩,⟨bG HB.out⟩⟩
                    ·rw [if_neg c36] at H
                     have aI := decide_eq_false c36
                     clear c36
                     (first|rw [aI]|(simp only [i64_w,i32_w];rw [aI])|rw [c36b1]|skip)
                     have H' := aK H
                     clear H
                     obtain ⟨_,_,_,_,_,_,_,_,_,_,_,_⟩ := bk6_ aa.out
                     go_wp2
                     go_meet
                     case rel => exact ⟨_,(decide (ah > 9999)),(by first|rfl|(simp;done)|(simp [*];done)),H',⟨by have := aD.out;have := aJ.out;have := am.out;have := au.out;have := aF.out;have := aO.out;have := a8.out;first|omega|exact Nat.le_refl _⟩,⟨kM aa.out⟩,⟨bG HB.out⟩⟩
                   ·replace bB := Bool.eq_false_iff.mpr bB
                    subst bB
                    rw [if_neg (show ¬ (false = true) by decide)] at H
                    have H' := aK H
                    clear H
                    go_wp2
                    go_meet
                    case rel => exact ⟨_,(false),(by first|rfl|(simp;done)|(simp [*];done)),H',⟨by have := aD.out;have := aJ.out;have := am.out;have := au.out;have := aF.out;have := aO.out;have := a8.out;first|omega|exact Nat.le_refl _⟩,⟨kM aa.out⟩,⟨bG HB.out⟩⟩
                  case rest =>
                   clear a9
                   try clear p2
                   try clear bj
                   try clear p2
                   obtain ⟨kq,aA,rfl,HA,bU,aa,HB⟩ := hcut
                   cases kq with
                  |zero => exact absurd HA.out (by simp [manifest_fields.j7])
                  |succ kj33 =>
                    have H := HA.out
                    clear HA
                    simp only [manifest_fields.j7] at H
                    by_cases bC : aA = true
                    ·subst bC
                     rw [if_pos rfl] at H
                     obtain rfl := Option.some.inj H
                     go_wp2
                     go_ret
                     exact ⟨by first|rfl|(simp [errW_none,errW_some] <;> rfl)|(simp [*,errW_none,errW_some] <;> rfl),bG HB.out⟩
                    ·replace bC := Bool.eq_false_iff.mpr bC
                     subst bC
                     rw [if_neg (show ¬ (false = true) by decide)] at H
                     replace H := Option.bind_eq_some_iff.mp H
                     obtain ⟨bL,bk,H⟩ := H
                     have bm := aK bk
                     clear bk
                     by_cases bD : bL = true
                     ·subst bD
                      rw [if_pos rfl] at H
                      replace H := Option.bind_eq_some_iff.mp H
                      obtain ⟨bN,bn,H⟩ := H
                      have bE := aK bn
                      clear bn
                      by_cases bF : bN = true
                      ·subst bF
                       rw [if_pos rfl] at H
                       by_cases ba : ac = 4
                       ·rw [if_pos ba] at H
                        have bo := beq_iff_eq.mpr ba
                        have bp := bne_eq_false_iff_eq.mpr ba
                        clear ba
                        by_cases bc : (ab.length : Int) < 2
                        ·rw [if_pos bc] at H
                         have bq := decide_eq_true bc
                         have br : decide (ab.length < 2) = true := decide_eq_true (by omega)
                         clear bc
                         replace H := Option.bind_eq_some_iff.mp H
                         obtain ⟨bO,bs,H⟩ := H
                         have bV := aK bs
                         clear bs
                         obtain rfl := Option.some.inj H
                         obtain ⟨_,_,_,_,_,_,_,_,_,_,_,_⟩ := bk6_ aa.out
                         go_wp2_with (first|((with_reducible refine gate_callee (f := 66) rfl ?_);refine gL 80 Tryz.func66 #[.slice aj ab.length ak] ?_;(with_reducible refine (posting_Valid.calls kj33 _ _ ab true _ ?ae ?af bm.out).mono ?_);(case ae => exact cM (Kd.C_below aB.out HB.out));(case af => exact aC.out);rintro e w' ⟨rfl,⟨nd,rfl⟩⟩;refine ⟨_,rfl,?_⟩)|(go_at_call 66;(with_reducible refine (posting_Valid.calls kj33 _ _ ad true _ ?ae ?af bE.out).mono ?_);(case ae => exact Kd.C_below aL.out (bG HB.out));(case af => exact aM.out);rintro e w' ⟨rfl,⟨nd,rfl⟩⟩)|(go_at_call 67;(with_reducible refine (manifest_branches.calls kj33 _ _ ag bO _ ?ae ?af bV.out).mono ?_);(case ae => exact Kd.C_below bd.out (bG HB.out));(case af => exact be.out);rintro e bW ⟨rfl,hb⟩;replace aa := aK (blk_below (kM aa.out) hb);replace HB := aK (below_step (bG HB.out) hb);(try clear hb)))
                         go_ret
                         exact ⟨by first|rfl|(simp [errW_none,errW_some] <;> rfl)|(simp [*,errW_none,errW_some] <;> rfl),bG HB.out⟩
                        ·rw [if_neg bc] at H
                         have bq := decide_eq_false bc
                         have br : decide (ab.length < 2) = false := decide_eq_false (by omega)
                         clear bc
                         obtain rfl := Option.some.inj H
                         obtain ⟨_,_,_,_,_,_,_,_,_,_,_,_⟩ := bk6_ aa.out
                         go_wp2_with (first|((with_reducible refine gate_callee (f := 66) rfl ?_);refine gL 80 Tryz.func66 #[.slice aj ab.length ak] ?_;(with_reducible refine (posting_Valid.calls kj33 _ _ ab true _ ?ae ?af bm.out).mono ?_);(case ae => exact cM (Kd.C_below aB.out HB.out));(case af => exact aC.out);rintro e w' ⟨rfl,⟨nd,rfl⟩⟩;refine ⟨_,rfl,?_⟩)|(go_at_call 66;(with_reducible refine (posting_Valid.calls kj33 _ _ ad true _ ?ae ?af bE.out).mono ?_);(case ae => exact Kd.C_below aL.out (bG HB.out));(case af => exact aM.out);rintro e w' ⟨rfl,⟨nd,rfl⟩⟩))
                         go_ret
                         exact ⟨by first|rfl|(simp [errW_none,errW_some] <;> rfl)|(simp [*,errW_none,errW_some] <;> rfl),bG HB.out⟩
                       ·rw [if_neg ba] at H
                        have bo := beq_eq_false_iff_ne.mpr ba
                        have bp := bne_iff_ne.mpr ba
                        obtain rfl := Option.some.inj H
                        obtain ⟨_,_,_,_,_,_,_,_,_,_,_,_⟩ := bk6_ aa.out
                        go_wp2_with (first|((with_reducible refine gate_callee (f := 66) rfl ?_);refine gL 80 Tryz.func66 #[.slice aj ab.length ak] ?_;(with_reducible refine (posting_Valid.calls kj33 _ _ ab true _ ?ae ?af bm.out).mono ?_);(case ae => exact cM (Kd.C_below aB.out HB.out));(case af => exact aC.out);rintro e w' ⟨rfl,⟨nd,rfl⟩⟩;refine ⟨_,rfl,?_⟩)|(go_at_call 66;(with_reducible refine (posting_Valid.calls kj33 _ _ ad true _ ?ae ?af bE.out).mono ?_);(case ae => exact Kd.C_below aL.out (bG HB.out));(case af => exact aM.out);rintro e w' ⟨rfl,⟨nd,rfl⟩⟩))
                        go_ret
                        exact ⟨by first|rfl|(simp [errW_none,errW_some] <;> rfl)|(simp [*,errW_none,errW_some] <;> rfl),bG HB.out⟩
                      ·replace bF := Bool.eq_false_iff.mpr bF
                       subst bF
                       rw [if_neg (show ¬ (false = true) by decide)] at H
                       obtain rfl := Option.some.inj H
                       obtain ⟨_,_,_,_,_,_,_,_,_,_,_,_⟩ := bk6_ aa.out
                       go_wp2_with (first|((with_reducible refine gate_callee (f := 66) rfl ?_);refine gL 80 Tryz.func66 #[.slice aj ab.length ak] ?_;(with_reducible refine (posting_Valid.calls kj33 _ _ ab true _ ?ae ?af bm.out).mono ?_);(case ae => exact cM (Kd.C_below aB.out HB.out));(case af => exact aC.out);rintro e w' ⟨rfl,⟨nd,rfl⟩⟩;refine ⟨_,rfl,?_⟩)|(go_at_call 66;(with_reducible refine (posting_Valid.calls kj33 _ _ ad false _ ?ae ?af bE.out).mono ?_);(case ae => exact Kd.C_below aL.out (bG HB.out));(case af => exact aM.out);rintro e w' ⟨rfl,⟨nd,rfl⟩⟩))
                       go_ret
                       exact ⟨by first|rfl|(simp [errW_none,errW_some] <;> rfl)|(simp [*,errW_none,errW_some] <;> rfl),bG HB.out⟩
                     ·replace bD := Bool.eq_false_iff.mpr bD
                      subst bD
                      rw [if_neg (show ¬ (false = true) by decide)] at H
                      obtain rfl := Option.some.inj H
                      obtain ⟨_,_,_,_,_,_,_,_,_,_,_,_⟩ := bk6_ aa.out
                      go_wp2_with (first|((with_reducible refine gate_callee (f := 66) rfl ?_);refine gL 80 Tryz.func66 #[.slice aj ab.length ak] ?_;(with_reducible refine (posting_Valid.calls kj33 _ _ ab false _ ?ae ?af bm.out).mono ?_);(case ae => exact cM (Kd.C_below aB.out HB.out));(case af => exact aC.out);rintro e w' ⟨rfl,⟨nd,rfl⟩⟩;refine ⟨_,rfl,?_⟩))
                      go_ret
                      exact ⟨by first|rfl|(simp [errW_none,errW_some] <;> rfl)|(simp [*,errW_none,errW_some] <;> rfl),bG HB.out⟩
end Go.Proofs.YtmgliocboeifdaaGreatDoor.F
