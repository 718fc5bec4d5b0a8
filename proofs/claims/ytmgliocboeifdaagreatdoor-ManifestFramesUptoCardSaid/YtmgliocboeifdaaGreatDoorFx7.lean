import Derived.Test.YtmgliocboeifdaaGreatDoorFx0
import Derived.Test.YtmgliocboeifdaaGreatDoorFx5
import Derived.Test.YtmgliocboeifdaaGreatDoorFx6
import Derived.Test.YtmgliocboeifdaaGreatDoorFx11
namespace Go.Proofs.YtmgliocboeifdaaGreatDoor.F
open Go.RowKit Go.Proofs.YtmgliocboeifdaaGreatDoorW.PrintWords Go.Proofs.YtmgliocboeifdaaGreatDoorW.PrintLast Go.Proofs.YtmgliocboeifdaaGreatDoorW.PrintMore
attribute [local go_sem] max2_int min2_int max_two min_two max_three min_three max_four min_four
set_option linter.unusedVariables false
set_option linter.unusedSimpArgs false
mutual
def manifest_check.j0 : Nat → Bool → List Int → List Int → Int → Int → Int → Int → List Int → List Int → List ByteArray → Option (Int)
|0,_,_,_,_,_,_,_,_,_,_ => none
|k + 1,x7,ac,ad,aa,ae,af,ab,ag,ah,ai => if x7 = true then (manifest_check.j1 k (decide (ab ≤ aa)) ac ad aa ae af ab ag ah ai) else (manifest_check.j1 k false ac ad aa ae af ab ag ah ai)
def manifest_check.j1 : Nat → Bool → List Int → List Int → Int → Int → Int → Int → List Int → List Int → List ByteArray → Option (Int)
|0,_,_,_,_,_,_,_,_,_,_ => none
|k + 1,aj,ab,ac,ad,ae,af,ag,ah,aa,ai => if aj = true then (some 7) else (manifest_check.l0 k aa (aa.length : Int) 0 ab ac ad ae af ag ah aa ai)
def manifest_check.l0 : Nat → List Int → Int → Int → List Int → List Int → Int → Int → Int → Int → List Int → List Int → List ByteArray → Option (Int)
|0,_,_,_,_,_,_,_,_,_,_,_,_ => none
|k + 1,ak,am,aj,ad,ae,af,ag,aa,ah,ac,ab,ai => if aj < am then (if 0 ≤ aj then (if aj < (ak.length : Int) then ((slices_Contains_int_int.f k ad (rd ak aj)).bind fun al => (if al = true then (manifest_check.l0 k ak am (wrap64 (aj + 1)) ad ae af ag aa ah ac ab ai) else (some 8))) else (none)) else (none)) else (if aa = 2 then (if (ac.length : Int) = 0 then (some 1) else (if aa = 3 then (if (ab.length : Int) = 0 then (some 1) else (some 0)) else (some 0))) else (if aa = 4 then (if (ac.length : Int) = 0 then (some 1) else (if aa = 3 then (if (ab.length : Int) = 0 then (some 1) else (some 0)) else (some 0))) else (if aa = 3 then (if (ab.length : Int) = 0 then (some 1) else (some 0)) else (some 0))))
end
def manifest_check.f (k : Nat) (ag : List Int) (ah : List Int) (ai : Int) (a1 : Int) (ab : Int) (aa : Int) (ac : Int) (ad : List Int) (ae : List Int) (af : List ByteArray) : Option (Int) := if ab = (wrap64 (a1 + 1)) then ((manifest_fields.f k ab aa ac ad ae af).bind fun aj => (if aj = true then (if aa = 1 then (manifest_check.j0 k true ag ah ai ab aa ac ad ae af) else (manifest_check.j0 k (aa == 3) ag ah ai ab aa ac ad ae af)) else (some 1))) else (some 2)
theorem manifest_check.mono_l : ∀ k, (∀ y0 y1 y2 y3 y4 y5 y6 y7 y8 y9, LeO (manifest_check.j0 k y0 y1 y2 y3 y4 y5 y6 y7 y8 y9) (manifest_check.j0 (k + 1) y0 y1 y2 y3 y4 y5 y6 y7 y8 y9)) ∧ (∀ y0 y1 y2 y3 y4 y5 y6 y7 y8 y9, LeO (manifest_check.j1 k y0 y1 y2 y3 y4 y5 y6 y7 y8 y9) (manifest_check.j1 (k + 1) y0 y1 y2 y3 y4 y5 y6 y7 y8 y9)) ∧ (∀ y0 y1 y2 y3 y4 y5 y6 y7 y8 y9 y10 y11, LeO (manifest_check.l0 k y0 y1 y2 y3 y4 y5 y6 y7 y8 y9 y10 y11) (manifest_check.l0 (k + 1) y0 y1 y2 y3 y4 y5 y6 y7 y8 y9 y10 y11))
|0 => ⟨fun _ _ _ _ _ _ _ _ _ _ r h => by simp [manifest_check.j0] at h,fun _ _ _ _ _ _ _ _ _ _ r h => by simp [manifest_check.j1] at h,fun _ _ _ _ _ _ _ _ _ _ _ _ r h => by simp [manifest_check.l0] at h⟩
|k + 1 => by
  obtain ⟨ih0,ih1,ih2⟩ := manifest_check.mono_l k
  refine ⟨?_,?_,?_⟩
  ·intro y0 y1 y2 y3 y4 y5 y6 y7 y8 y9
   unfold manifest_check.j0
   repeat' (with_reducible first|exact ih1 _ _ _ _ _ _ _ _ _ _|exact LeO.refl _|exact LeO.none _|refine LeO.ite ?_ ?_|refine LeO.bind ?_ (fun _ => ?_))
  ·intro y0 y1 y2 y3 y4 y5 y6 y7 y8 y9
   unfold manifest_check.j1
   repeat' (with_reducible first|exact ih2 _ _ _ _ _ _ _ _ _ _ _ _|exact LeO.refl _|exact LeO.none _|refine LeO.ite ?_ ?_|refine LeO.bind ?_ (fun _ => ?_))
  ·intro y0 y1 y2 y3 y4 y5 y6 y7 y8 y9 y10 y11
   unfold manifest_check.l0
   repeat' (with_reducible first|exact ih2 _ _ _ _ _ _ _ _ _ _ _ _|exact slices_Contains_int_int.mono _ _ _|exact LeO.refl _|exact LeO.none _|refine LeO.ite ?_ ?_|refine LeO.bind ?_ (fun _ => ?_))
theorem manifest_check.mono : ∀ a0 a1 a2 a3 a4 a5 a6 a7 a8 a9 k, LeO (manifest_check.f k a0 a1 a2 a3 a4 a5 a6 a7 a8 a9) (manifest_check.f (k + 1) a0 a1 a2 a3 a4 a5 a6 a7 a8 a9) := by
 intro a0 a1 a2 a3 a4 a5 a6 a7 a8 a9 k
 obtain ⟨ih0,ih1,ih2⟩ := manifest_check.mono_l k
 unfold manifest_check.f
 repeat' (with_reducible first|exact ih0 _ _ _ _ _ _ _ _ _ _|exact ih1 _ _ _ _ _ _ _ _ _ _|exact ih2 _ _ _ _ _ _ _ _ _ _ _ _|exact manifest_fields.mono _ _ _ _ _ _ _|exact slices_Contains_int_int.mono _ _ _|exact LeO.refl _|exact LeO.none _|refine LeO.ite ?_ ?_|refine LeO.bind ?_ (fun _ => ?_))
set_option maxHeartbeats 4000000 in
set_option maxRecDepth 100000 in
theorem manifest_check.calls (k : Nat) (av : Option Addr) (aw : Nat) (ai : List Int) (aE : Option Addr) (aF : Nat) (ao : List Int) (aq : Int) (a1 : Int) (am : Int) (ag : Int) (an : Int) (ax : Option Addr) (ay : Nat) (ah : List Int) (az : Option Addr) (aA : Nat) (ae : List Int) (aB : Option Addr) (aC : Nat) (aj : List ByteArray) (r : Int) (w : World) (bk : Kd.C (Kd.int .i64) w av ai.length ai) (bm : ai.length ≤ aw) (bn : Kd.C (Kd.int .i64) w aE ao.length ao) (bo : ao.length ≤ aF) (bp : Kd.C (Kd.int .i64) w ax ah.length ah) (bq : ah.length ≤ ay) (br : Kd.C (Kd.int .i64) w az ae.length ae) (bs : ae.length ≤ aA) (bu : Kd.C Kd.string w aB aj.length aj) (bv : aj.length ≤ aC) (h : manifest_check.f k ai ao aq a1 am ag an ah ae aj = some r) :
  Calls Tryz.prog 24 #[.agg #[.slice av ai.length aw,.slice aE ao.length aF,.int .i64 aq],.int .i64 a1,.agg #[.int .i64 am,.int .i64 ag,.int .i64 an,.slice ax ah.length ay,.slice az ae.length aA,.slice aB aj.length aC]] w fun e w' => e = .returned (.int .i64 r) ∧ Below w.heap.size w w' := by
 have dz := Tryz.underlying46
 have dB := Tryz.underlying30
 have bx := aK bk
 have bz := aK bm
 clear bk bm
 have cx := aK bn
 have cy := aK bo
 clear bn bo
 have bB := aK bp
 have bC := aK bq
 clear bp bq
 have aO := aK br
 have bD := aK bs
 clear br bs
 have bE := aK bu
 have bF := aK bv
 clear bu bv
 have HB := aK (Below.refl w.heap.size w)
 unfold manifest_check.f at h
 have H := h
 clear h
 by_cases c4 : am = (wrap64 (a1 + 1))
 ·rw [if_pos c4] at H
  have bZ := beq_iff_eq.mpr c4
  have b0 := bne_eq_false_iff_eq.mpr c4
  clear c4
  replace H := Option.bind_eq_some_iff.mp H
  obtain ⟨cu,cz,H⟩ := H
  have A5 := aK cz
  clear cz
  by_cases c6 : cu = true
  ·subst c6
   rw [if_pos rfl] at H
   have cv := aK H
   clear H
   go_enter Tryz.func24,Tryz.ntmps24
   go_upto_region 5 with (first|((with_reducible refine gate_dst (N := 3) rfl ?_);(try (refine gate_guard (by rfl) ?_;dsimp only));refine box_event ?hg (N := 3) ?hd (cs := #[.slice av ai.length aw,.slice aE ao.length aF,.int .i64 aq]) (t := 46) ?hr ?_;(case hd => rfl);(case hg => rfl);(case hr => first|(go_simp;done)|(go_simp;rfl));intro ak hg w8 hbox hb;have ad := aK (hbox);have aG := aK ((by rw [hg];exact (below_size (bM HB.out)) : w.heap.size ≤ ak));have bH := Ge.mk aG.out;have aH := aK ((by rw [hg];exact (below_size (bM HB.out)) : w.heap.size ≤ ak));have bI := Ge.mk aH.out;replace HB := aK (below_step (bM HB.out) hb);clear hb hbox hg)|((with_reducible refine gate_dst (N := 5) rfl ?_);(try (refine gate_guard (by rfl) ?_;dsimp only));refine box_event ?hg (N := 5) ?hd (cs := #[.int .i64 am,.int .i64 ag,.int .i64 an,.slice ax ah.length ay,.slice az ae.length aA,.slice aB aj.length aC]) (t := 30) ?hr ?_;(case hd => rfl);(case hg => rfl);(case hr => first|(go_simp;done)|(go_simp;rfl));intro al hg w9 hbox hb;have ac := aK (hbox);have aI := aK ((by rw [hg];exact (below_size (bG HB.out)) : w.heap.size ≤ al));have bJ := Ge.mk aI.out;have aJ := aK ((by rw [hg];exact (below_size (bG HB.out)) : w.heap.size ≤ al));have bK := Ge.mk aJ.out;replace HB := aK (below_step (bG HB.out) hb);have aa := aK (nbL ad.out hg);have ab := aK (nbR ad.out hg);replace ad := aK (blk_below (kM ad.out) hb);clear hb hbox hg;have cA := ab.out;have cB := aa.out;obtain ⟨aU,aV,aW,aX,aY,aZ,a0,a2,a3,a4,a5,a6⟩ := bk6_ ac.out)|((with_reducible refine gate_callee (f := 52) rfl ?_);refine gL 17 Tryz.func52 #[.agg #[.int .i64 am,.int .i64 ag,.int .i64 an,.slice ax ah.length ay,.slice az ae.length aA,.slice aB aj.length aC]] ?_;(with_reducible refine (manifest_fields.calls k am ag an _ _ ah _ _ ae _ _ aj true _ ?ar ?au ?aP ?aQ ?aR ?aS A5.out).mono ?_);(case ar => exact cM (Kd.C_below bB.out HB.out));(case au => exact bC.out);(case aP => exact cM (Kd.C_below aO.out HB.out));(case aQ => exact bD.out);(case aR => exact cM (Kd.C_below bE.out HB.out));(case aS => exact bF.out);rintro e dE ⟨rfl,hb⟩;refine ⟨_,rfl,?_⟩;replace ad := aK (blk_below (kM ad.out) hb);replace ac := aK (blk_below (kM ac.out) hb);replace HB := aK (below_step (bG HB.out) hb);(try clear hb)))
   (try simp only [Act.put,z1_,z2_,z3_])
   go_cut [7] (fun v7 wc => ∃ (kq : Nat) (a7 : Bool),v7 = .bool a7 ∧ Aside0 (manifest_check.j0 kq a7 ai ao aq am ag an ah ae aj = some r) ∧ Aside0 (kq ≤ k) ∧ Aside0 (wc.heap[ak]? = some (.cells #[(.slice av ai.length aw),(.slice aE ao.length aF),.int .i64 aq] 46 (0,0))) ∧ Aside0 (wc.heap[al]? = some (.cells #[.int .i64 am,.int .i64 ag,.int .i64 an,(.slice ax ah.length ay),(.slice az ae.length aA),(.slice aB aj.length aC)] 30 (0,0))) ∧ Aside0 (Below w.heap.size w wc))
   case first =>
    have H := cv.out
    clear cv
    by_cases bQ : ag = 1
    ·rw [if_pos bQ] at H
     have aL := beq_iff_eq.mpr bQ
     have aT := bne_eq_false_iff_eq.mpr bQ
     clear bQ
     (first|rw [aL]|(simp only [i64_w,i32_w];rw [aL])|rw [aT]|skip)
     have H' := aK H
     clear H
     have cC := ab.out
     have cD := aa.out
     obtain ⟨_,_,_,_,_,_,_,_,_,_,_,_⟩ := bk6_ ac.out
     go_wp2
     go_meet
     case rel => exact ⟨_,(true),(by first|rfl|(simp;done)|(simp [*];done)),H',⟨by first|omega|exact Nat.le_refl _⟩,⟨kM ad.out⟩,⟨kM ac.out⟩,⟨bG HB.out⟩⟩
    ·rw [if_neg bQ] at H
     have aL := beq_eq_false_iff_ne.mpr bQ
     have aT := bne_iff_ne.mpr bQ
     (first|rw [aL]|(simp only [i64_w,i32_w];rw [aL])|rw [aT]|skip)
     have H' := aK H
     clear H
     have cE := ab.out
     have cF := aa.out
     obtain ⟨_,_,_,_,_,_,_,_,_,_,_,_⟩ := bk6_ ac.out
     go_wp2
     go_meet
     case rel => exact ⟨_,((ag == 3)),(by first|rfl|(simp;done)|(simp [*];done)),H',⟨by first|omega|exact Nat.le_refl _⟩,⟨kM ad.out⟩,⟨kM ac.out⟩,⟨bG HB.out⟩⟩
   case rest =>
    clear cv
    try clear p2
    try clear c4
    try clear bZ
    try clear b0
    try clear c6
    try clear p6
    try clear aU
    try clear aV
    try clear aW
    try clear aX
    try clear aY
    try clear aZ
    try clear a0
    try clear a2
    try clear a3
    try clear a4
    try clear a5
    try clear a6
    obtain ⟨kq,a7,rfl,HA,cq,ad,ac,HB⟩ := hcut
    cases kq with
   |zero => exact absurd HA.out (by simp [manifest_check.j0])
   |succ kj6 =>
     have H := HA.out
     clear HA
     simp only [manifest_check.j0] at H
     have bR := aK H
     clear H
     go_upto_region 6 with (fail)
     go_cut [34] (fun dC wc => ∃ (kq : Nat) (aD : Bool),dC = .bool aD ∧ Aside0 (manifest_check.j1 kq aD ai ao aq am ag an ah ae aj = some r) ∧ Aside0 (kq ≤ kj6) ∧ Aside0 (wc.heap[ak]? = some (.cells #[(.slice av ai.length aw),(.slice aE ao.length aF),.int .i64 aq] 46 (0,0))) ∧ Aside0 (wc.heap[al]? = some (.cells #[.int .i64 am,.int .i64 ag,.int .i64 an,(.slice ax ah.length ay),(.slice az ae.length aA),(.slice aB aj.length aC)] 30 (0,0))) ∧ Aside0 (Below w.heap.size w wc))
     case first =>
      have H := bR.out
      clear bR
      by_cases cr : a7 = true
      ·subst cr
       rw [if_pos rfl] at H
       have H' := aK H
       clear H
       have cG := ab.out
       have cH := aa.out
       obtain ⟨_,_,_,_,_,_,_,_,_,_,_,_⟩ := bk6_ ac.out
       obtain ⟨_,_,_,_,_,_⟩ := bk3_ ad.out
       go_wp2
       go_meet
       case rel => exact ⟨_,(decide (an ≤ aq)),(by first|rfl|(simp;done)|(simp [*];done)),H',⟨by have := cq.out;first|omega|exact Nat.le_refl _⟩,⟨kM ad.out⟩,⟨kM ac.out⟩,⟨bG HB.out⟩⟩
      ·replace cr := Bool.eq_false_iff.mpr cr
       subst cr
       rw [if_neg (show ¬ (false = true) by decide)] at H
       have H' := aK H
       clear H
       go_wp2
       go_meet
       case rel => exact ⟨_,(false),(by first|rfl|(simp;done)|(simp [*];done)),H',⟨by have := cq.out;first|omega|exact Nat.le_refl _⟩,⟨kM ad.out⟩,⟨kM ac.out⟩,⟨bG HB.out⟩⟩
     case rest =>
      clear bR
      try clear p2
      try clear p6
      try clear p2
      try clear p6
      obtain ⟨kq,aD,rfl,HA,b1,ad,ac,HB⟩ := hcut
      cases kq with
     |zero => exact absurd HA.out (by simp [manifest_check.j1])
     |succ kj17 =>
       have H := HA.out
       clear HA
       simp only [manifest_check.j1] at H
       by_cases b2 : aD = true
       ·subst b2
        rw [if_pos rfl] at H
        obtain rfl := Option.some.inj H
        go_wp2
        go_ret
        exact ⟨by first|rfl|(simp [errW_none,errW_some] <;> rfl)|(simp [*,errW_none,errW_some] <;> rfl),bG HB.out⟩
       ·replace b2 := Bool.eq_false_iff.mpr b2
        subst b2
        rw [if_neg (show ¬ (false = true) by decide)] at H
        have H' := aK H
        clear H
        have cI := ab.out
        have cJ := aa.out
        obtain ⟨a8,a9,ba,bb,bc,bd,be,bf,bg,bh,bi,bj⟩ := bk6_ ac.out
        go_wp2
        go_loopg [38] kj17 (fun kq dD w' => ∃ (af : Int),dD = .int .i64 af ∧ Aside0 (manifest_check.l0 kq ae (ae.length : Int) af ai ao aq am ag an ah ae aj = some r) ∧ Aside0 (kq ≤ kj17) ∧ Aside0 (w'.heap[ak]? = some (.cells #[(.slice av ai.length aw),(.slice aE ao.length aF),.int .i64 aq] 46 (0,0))) ∧ Aside0 (w'.heap[al]? = some (.cells #[.int .i64 am,.int .i64 ag,.int .i64 an,(.slice ax ah.length ay),(.slice az ae.length aA),(.slice aB aj.length aC)] 30 (0,0))) ∧ Aside0 (Below w.heap.size w w'))
        case atStart => exact ⟨(0),(by first|rfl|(simp;done)|(simp [*];done)),H',⟨Nat.le_refl _⟩,⟨kM ad.out⟩,⟨kM ac.out⟩,⟨bG HB.out⟩⟩
        case round =>
         clear H'
         try clear p2
         try clear p6
         try clear b2
         try clear a8
         try clear a9
         try clear ba
         try clear bb
         try clear bc
         try clear bd
         try clear be
         try clear bf
         try clear bg
         try clear bh
         try clear bi
         try clear bj
         try clear p2
         try clear p6
         obtain ⟨af,rfl,HA,cK,ad,ac,HB⟩ := hrel
         cases gk with
        |zero => exact absurd HA.out (by simp [manifest_check.l0])
        |succ k3 =>
          have H := HA.out
          clear HA
          simp only [manifest_check.l0] at H
          by_cases bY : af < (ae.length : Int)
          ·rw [if_pos bY] at H
           have b3 := decide_eq_true bY
           clear bY
           obtain ⟨cL,H⟩ := iS H
           have cN := decide_eq_true cL
           clear cL
           obtain ⟨cO,H⟩ := iS H
           have cP := decide_eq_true cO
           clear cO
           replace H := Option.bind_eq_some_iff.mp H
           obtain ⟨cw,b4,H⟩ := H
           have cQ := aK b4
           clear b4
           by_cases ct : cw = true
           ·subst ct
            rw [if_pos rfl] at H
            have H' := aK H
            clear H
            have aM : 0 ≤ (af : Int) := dA
            have aN : af < (ae.length : Int) := dA
            obtain ⟨b5,bS,ap⟩ := Kd.at_int aO.out af aM aN
            cases bS
            replace ap := xM HB ap
            replace aM := eq_true aM
            replace aN := eq_true aN
            have cR := aa.out
            have cS := ab.out
            obtain ⟨_,_,_,_,_,_⟩ := bk3_ ad.out
            go_wp2_with (first|((with_reducible refine gate_callee (f := 53) rfl ?_);refine gL 45 Tryz.func53 #[.slice av ai.length aw,.int .i64 (rd ae af)] ?_;(with_reducible refine (slices_Contains_int_int.calls k3 _ _ ai (rd ae af) true _ ?ar ?au cQ.out).mono ?_);(case ar => exact cM (Kd.C_below bx.out HB.out));(case au => exact bz.out);rintro e w' ⟨rfl,⟨nd,rfl⟩⟩;refine ⟨_,rfl,?_⟩))
            go_roundg k3
            case measure => have := cq.out;have := b1.out;have := cK.out;omega
            case rel => exact ⟨(wrap64 (af + 1)),(by first|rfl|(simp;done)|(simp [*];done)),H',⟨by have := cq.out;have := b1.out;have := cK.out;omega⟩,⟨kM ad.out⟩,⟨kM ac.out⟩,⟨bG HB.out⟩⟩
           ·replace ct := Bool.eq_false_iff.mpr ct
            subst ct
            rw [if_neg (show ¬ (false = true) by decide)] at H
            obtain rfl := Option.some.inj H
            have aM : 0 ≤ (af : Int) := dA
            have aN : af < (ae.length : Int) := dA
            obtain ⟨b5,bS,ap⟩ := Kd.at_int aO.out af aM aN
            cases bS
            replace ap := xM HB ap
            replace aM := eq_true aM
            replace aN := eq_true aN
            have cT := aa.out
            have cU := ab.out
            obtain ⟨_,_,_,_,_,_⟩ := bk3_ ad.out
            go_wp2_with (first|((with_reducible refine gate_callee (f := 53) rfl ?_);refine gL 45 Tryz.func53 #[.slice av ai.length aw,.int .i64 (rd ae af)] ?_;(with_reducible refine (slices_Contains_int_int.calls k3 _ _ ai (rd ae af) false _ ?ar ?au cQ.out).mono ?_);(case ar => exact cM (Kd.C_below bx.out HB.out));(case au => exact bz.out);rintro e w' ⟨rfl,⟨nd,rfl⟩⟩;refine ⟨_,rfl,?_⟩))
            go_ret
            exact ⟨by first|rfl|(simp [errW_none,errW_some] <;> rfl)|(simp [*,errW_none,errW_some] <;> rfl),bG HB.out⟩
          ·rw [if_neg bY] at H
           have b3 := decide_eq_false bY
           clear bY
           by_cases bT : ag = 2
           ·rw [if_pos bT] at H
            have b6 := beq_iff_eq.mpr bT
            have b7 := bne_eq_false_iff_eq.mpr bT
            clear bT
            by_cases c36 : (ah.length : Int) = 0
            ·rw [if_pos c36] at H
             have b8 := beq_iff_eq.mpr c36
             have b9 := bne_eq_false_iff_eq.mpr c36
             clear c36
             obtain rfl := Option.some.inj H
             have cV := ab.out
             have cW := aa.out
             obtain ⟨_,_,_,_,_,_,_,_,_,_,_,_⟩ := bk6_ ac.out
             go_wp2
             go_ret
             exact ⟨by first|rfl|(simp [errW_none,errW_some] <;> rfl)|(simp [*,errW_none,errW_some] <;> rfl),bG HB.out⟩
            ·rw [if_neg c36] at H
             have b8 := beq_eq_false_iff_ne.mpr c36
             have b9 := bne_iff_ne.mpr c36
             have cX : ¬ (ah = []) := fun h_ => c36 (by rw [h_];rfl)
             by_cases bU : ag = 3
             ·rw [if_pos bU] at H
              have ca := beq_iff_eq.mpr bU
              have cb := bne_eq_false_iff_eq.mpr bU
              clear bU
              by_cases bL : (ae.length : Int) = 0
              ·rw [if_pos bL] at H
               have cc := beq_iff_eq.mpr bL
               have cd := bne_eq_false_iff_eq.mpr bL
               clear bL
               obtain rfl := Option.some.inj H
               have cY := ab.out
               have cZ := aa.out
               obtain ⟨_,_,_,_,_,_,_,_,_,_,_,_⟩ := bk6_ ac.out
               go_wp2
               go_ret
               exact ⟨by first|rfl|(simp [errW_none,errW_some] <;> rfl)|(simp [*,errW_none,errW_some] <;> rfl),bG HB.out⟩
              ·rw [if_neg bL] at H
               have cc := beq_eq_false_iff_ne.mpr bL
               have cd := bne_iff_ne.mpr bL
               have c0 : ¬ (ae = []) := fun h_ => bL (by rw [h_];rfl)
               obtain rfl := Option.some.inj H
               have c1 := ab.out
               have da := aa.out
               obtain ⟨_,_,_,_,_,_,_,_,_,_,_,_⟩ := bk6_ ac.out
               go_wp2
               go_ret
               exact ⟨by first|rfl|(simp [errW_none,errW_some] <;> rfl)|(simp [*,errW_none,errW_some] <;> rfl),bG HB.out⟩
             ·rw [if_neg bU] at H
              have ca := beq_eq_false_iff_ne.mpr bU
              have cb := bne_iff_ne.mpr bU
              obtain rfl := Option.some.inj H
              have db := ab.out
              have dc := aa.out
              obtain ⟨_,_,_,_,_,_,_,_,_,_,_,_⟩ := bk6_ ac.out
              go_wp2
              go_ret
              exact ⟨by first|rfl|(simp [errW_none,errW_some] <;> rfl)|(simp [*,errW_none,errW_some] <;> rfl),bG HB.out⟩
           ·rw [if_neg bT] at H
            have b6 := beq_eq_false_iff_ne.mpr bT
            have b7 := bne_iff_ne.mpr bT
            by_cases bV : ag = 4
            ·rw [if_pos bV] at H
             have ce := beq_iff_eq.mpr bV
             have cf := bne_eq_false_iff_eq.mpr bV
             clear bV
             by_cases bN : (ah.length : Int) = 0
             ·rw [if_pos bN] at H
              have cg := beq_iff_eq.mpr bN
              have ch := bne_eq_false_iff_eq.mpr bN
              clear bN
              obtain rfl := Option.some.inj H
              have dd := ab.out
              have de := aa.out
              obtain ⟨_,_,_,_,_,_,_,_,_,_,_,_⟩ := bk6_ ac.out
              go_wp2
              go_ret
              exact ⟨by first|rfl|(simp [errW_none,errW_some] <;> rfl)|(simp [*,errW_none,errW_some] <;> rfl),bG HB.out⟩
             ·rw [if_neg bN] at H
              have cg := beq_eq_false_iff_ne.mpr bN
              have ch := bne_iff_ne.mpr bN
              have df : ¬ (ah = []) := fun h_ => bN (by rw [h_];rfl)
              by_cases bW : ag = 3
              ·rw [if_pos bW] at H
               have ci := beq_iff_eq.mpr bW
               have cj := bne_eq_false_iff_eq.mpr bW
               clear bW
               by_cases bO : (ae.length : Int) = 0
               ·rw [if_pos bO] at H
                have ck := beq_iff_eq.mpr bO
                have cl := bne_eq_false_iff_eq.mpr bO
                clear bO
                obtain rfl := Option.some.inj H
                have dg := ab.out
                have dh := aa.out
                obtain ⟨_,_,_,_,_,_,_,_,_,_,_,_⟩ := bk6_ ac.out
                go_wp2
                go_ret
                exact ⟨by first|rfl|(simp [errW_none,errW_some] <;> rfl)|(simp [*,errW_none,errW_some] <;> rfl),bG HB.out⟩
               ·rw [if_neg bO] at H
                have ck := beq_eq_false_iff_ne.mpr bO
                have cl := bne_iff_ne.mpr bO
                have di : ¬ (ae = []) := fun h_ => bO (by rw [h_];rfl)
                obtain rfl := Option.some.inj H
                have dj := ab.out
                have dk := aa.out
                obtain ⟨_,_,_,_,_,_,_,_,_,_,_,_⟩ := bk6_ ac.out
                go_wp2
                go_ret
                exact ⟨by first|rfl|(simp [errW_none,errW_some] <;> rfl)|(simp [*,errW_none,errW_some] <;> rfl),bG HB.out⟩
              ·rw [if_neg bW] at H
               have ci := beq_eq_false_iff_ne.mpr bW
               have cj := bne_iff_ne.mpr bW
               obtain rfl := Option.some.inj H
               have dl := ab.out
               have dm := aa.out
               obtain ⟨_,_,_,_,_,_,_,_,_,_,_,_⟩ := bk6_ ac.out
               go_wp2
               go_ret
               exact ⟨by first|rfl|(simp [errW_none,errW_some] <;> rfl)|(simp [*,errW_none,errW_some] <;> rfl),bG HB.out⟩
            ·rw [if_neg bV] at H
             have ce := beq_eq_false_iff_ne.mpr bV
             have cf := bne_iff_ne.mpr bV
             by_cases bX : ag = 3
             ·rw [if_pos bX] at H
              have cm := beq_iff_eq.mpr bX
              have cn := bne_eq_false_iff_eq.mpr bX
              clear bX
              by_cases bP : (ae.length : Int) = 0
              ·rw [if_pos bP] at H
               have co := beq_iff_eq.mpr bP
               have cp := bne_eq_false_iff_eq.mpr bP
               clear bP
               obtain rfl := Option.some.inj H
               have dn := ab.out
               have dp := aa.out
               obtain ⟨_,_,_,_,_,_,_,_,_,_,_,_⟩ := bk6_ ac.out
               go_wp2
               go_ret
               exact ⟨by first|rfl|(simp [errW_none,errW_some] <;> rfl)|(simp [*,errW_none,errW_some] <;> rfl),bG HB.out⟩
              ·rw [if_neg bP] at H
               have co := beq_eq_false_iff_ne.mpr bP
               have cp := bne_iff_ne.mpr bP
               have dq : ¬ (ae = []) := fun h_ => bP (by rw [h_];rfl)
               obtain rfl := Option.some.inj H
               have dr := ab.out
               have ds := aa.out
               obtain ⟨_,_,_,_,_,_,_,_,_,_,_,_⟩ := bk6_ ac.out
               go_wp2
               go_ret
               exact ⟨by first|rfl|(simp [errW_none,errW_some] <;> rfl)|(simp [*,errW_none,errW_some] <;> rfl),bG HB.out⟩
             ·rw [if_neg bX] at H
              have cm := beq_eq_false_iff_ne.mpr bX
              have cn := bne_iff_ne.mpr bX
              obtain rfl := Option.some.inj H
              have dt := ab.out
              have du := aa.out
              obtain ⟨_,_,_,_,_,_,_,_,_,_,_,_⟩ := bk6_ ac.out
              go_wp2
              go_ret
              exact ⟨by first|rfl|(simp [errW_none,errW_some] <;> rfl)|(simp [*,errW_none,errW_some] <;> rfl),bG HB.out⟩
  ·replace c6 := Bool.eq_false_iff.mpr c6
   subst c6
   rw [if_neg (show ¬ (false = true) by decide)] at H
   obtain rfl := Option.some.inj H
   go_enter Tryz.func24,Tryz.ntmps24
   go_wp2_with (first|((with_reducible refine gate_dst (N := 3) rfl ?_);(try (refine gate_guard (by rfl) ?_;dsimp only));refine box_event ?hg (N := 3) ?hd (cs := #[.slice av ai.length aw,.slice aE ao.length aF,.int .i64 aq]) (t := 46) ?hr ?_;(case hd => rfl);(case hg => rfl);(case hr => first|(go_simp;done)|(go_simp;rfl));intro ak hg dF hbox hb;have ad := aK (hbox);have aG := aK ((by rw [hg];exact (below_size (bM HB.out)) : w.heap.size ≤ ak));have bH := Ge.mk aG.out;have aH := aK ((by rw [hg];exact (below_size (bM HB.out)) : w.heap.size ≤ ak));have bI := Ge.mk aH.out;replace HB := aK (below_step (bM HB.out) hb);clear hb hbox hg)|((with_reducible refine gate_dst (N := 5) rfl ?_);(try (refine gate_guard (by rfl) ?_;dsimp only));refine box_event ?hg (N := 5) ?hd (cs := #[.int .i64 am,.int .i64 ag,.int .i64 an,.slice ax ah.length ay,.slice az ae.length aA,.slice aB aj.length aC]) (t := 30) ?hr ?_;(case hd => rfl);(case hg => rfl);(case hr => first|(go_simp;done)|(go_simp;rfl));intro al hg dG hbox hb;have ac := aK (hbox);have aI := aK ((by rw [hg];exact (below_size (bG HB.out)) : w.heap.size ≤ al));have bJ := Ge.mk aI.out;have aJ := aK ((by rw [hg];exact (below_size (bG HB.out)) : w.heap.size ≤ al));have bK := Ge.mk aJ.out;replace HB := aK (below_step (bG HB.out) hb);have aa := aK (nbL ad.out hg);have ab := aK (nbR ad.out hg);replace ad := aK (blk_below (kM ad.out) hb);clear hb hbox hg;have dv := ab.out;have dw := aa.out;obtain ⟨_,_,_,_,_,_,_,_,_,_,_,_⟩ := bk6_ ac.out)|((with_reducible refine gate_callee (f := 52) rfl ?_);refine gL 17 Tryz.func52 #[.agg #[.int .i64 am,.int .i64 ag,.int .i64 an,.slice ax ah.length ay,.slice az ae.length aA,.slice aB aj.length aC]] ?_;(with_reducible refine (manifest_fields.calls k am ag an _ _ ah _ _ ae _ _ aj false _ ?ar ?au ?aP ?aQ ?aR ?aS A5.out).mono ?_);(case ar => exact cM (Kd.C_below bB.out HB.out));(case au => exact bC.out);(case aP => exact cM (Kd.C_below aO.out HB.out));(case aQ => exact bD.out);(case aR => exact cM (Kd.C_below bE.out HB.out));(case aS => exact bF.out);rintro e dH ⟨rfl,hb⟩;refine ⟨_,rfl,?_⟩;replace ad := aK (blk_below (kM ad.out) hb);replace ac := aK (blk_below (kM ac.out) hb);replace HB := aK (below_step (bG HB.out) hb);(try clear hb)))
   go_ret
   exact ⟨by first|rfl|(simp [errW_none,errW_some] <;> rfl)|(simp [*,errW_none,errW_some] <;> rfl),bG HB.out⟩
 ·rw [if_neg c4] at H
  have bZ := beq_eq_false_iff_ne.mpr c4
  have b0 := bne_iff_ne.mpr c4
  obtain rfl := Option.some.inj H
  go_enter Tryz.func24,Tryz.ntmps24
  go_wp2_with (first|((with_reducible refine gate_dst (N := 3) rfl ?_);(try (refine gate_guard (by rfl) ?_;dsimp only));refine box_event ?hg (N := 3) ?hd (cs := #[.slice av ai.length aw,.slice aE ao.length aF,.int .i64 aq]) (t := 46) ?hr ?_;(case hd => rfl);(case hg => rfl);(case hr => first|(go_simp;done)|(go_simp;rfl));intro ak hg dI hbox hb;have ad := aK (hbox);have aG := aK ((by rw [hg];exact (below_size (bM HB.out)) : w.heap.size ≤ ak));have bH := Ge.mk aG.out;have aH := aK ((by rw [hg];exact (below_size (bM HB.out)) : w.heap.size ≤ ak));have bI := Ge.mk aH.out;replace HB := aK (below_step (bM HB.out) hb);clear hb hbox hg)|((with_reducible refine gate_dst (N := 5) rfl ?_);(try (refine gate_guard (by rfl) ?_;dsimp only));refine box_event ?hg (N := 5) ?hd (cs := #[.int .i64 am,.int .i64 ag,.int .i64 an,.slice ax ah.length ay,.slice az ae.length aA,.slice aB aj.length aC]) (t := 30) ?hr ?_;(case hd => rfl);(case hg => rfl);(case hr => first|(go_simp;done)|(go_simp;rfl));intro al hg dJ hbox hb;have ac := aK (hbox);have aI := aK ((by rw [hg];exact (below_size (bG HB.out)) : w.heap.size ≤ al));have bJ := Ge.mk aI.out;have aJ := aK ((by rw [hg];exact (below_size (bG HB.out)) : w.heap.size ≤ al));have bK := Ge.mk aJ.out;replace HB := aK (below_step (bG HB.out) hb);have aa := aK (nbL ad.out hg);have ab := aK (nbR ad.out hg);clear hb hbox hg;have dx := ab.out;have dy := aa.out;obtain ⟨_,_,_,_,_,_,_,_,_,_,_,_⟩ := bk6_ ac.out))
  go_ret
  exact ⟨by first|rfl|(simp [errW_none,errW_some] <;> rfl)|(simp [*,errW_none,errW_some] <;> rfl),bG HB.out⟩
end Go.Proofs.YtmgliocboeifdaaGreatDoor.F
