import Derived.Test.YtgadbpljlpclnaaGreatDoorHx0
import Derived.Test.YtgadbpljlpclnaaGreatDoorHx16
namespace Go.Proofs.YtgadbpljlpclnaaGreatDoor.H
open Go.RowKit Go.Proofs.YtgadbpljlpclnaaGreatDoorW.PrintWords Go.Proofs.YtgadbpljlpclnaaGreatDoorW.PrintLast Go.Proofs.YtgadbpljlpclnaaGreatDoorW.PrintMore
attribute [local go_sem] max2_int min2_int max_two min_two max_three min_three max_four min_four
set_option linter.unusedVariables false
set_option linter.unusedSimpArgs false

/-! ### r26_numbers: function 58 -/
mutual
def r26_numbers.j0 : Nat → List (S28) → Int → Int → List Int → List (S53) → Int → Int → Option (Bool)
|0,_,_,_,_,_,_,_ => none
|k + 1,x0,x5,aa,ad,ae,ab,ac => if aa ≤ x5 then (r26_numbers.j1 k x0 true aa ad ae ab ac) else (if aa > 9999 then (r26_numbers.j1 k x0 true aa ad ae ab ac) else (if ab < 0 then (r26_numbers.j1 k x0 true aa ad ae ab ac) else (if ab > 1000000 then (r26_numbers.j1 k x0 true aa ad ae ab ac) else (if ac < 0 then (r26_numbers.j1 k x0 true aa ad ae ab ac) else (r26_numbers.j1 k x0 (decide (ac > 9999)) aa ad ae ab ac)))))
def r26_numbers.j1 : Nat → List (S28) → Bool → Int → List Int → List (S53) → Int → Int → Option (Bool)
|0,_,_,_,_,_,_,_ => none
|k + 1,x0,af,aa,ab,ac,ad,ae => if af = true then (some false) else (r26_numbers.l0 k x0 0 aa ab ac ad ae)
def r26_numbers.l0 : Nat → List (S28) → Int → Int → List Int → List (S53) → Int → Int → Option (Bool)
|0,_,_,_,_,_,_,_ => none
|k + 1,x0,x6,ac,aa,ad,ab,ae => if x6 < (aa.length : Int) then (if 0 ≤ x6 then ((r26_Get.f k x0 (rd aa x6)).bind fun af => (if af.2.2.2.2.2 = true then (if ab < af.2.2.2.1 then (some false) else (r26_numbers.l0 k x0 (wrap64 (x6 + 1)) ac aa ad ab ae)) else (r26_numbers.l0 k x0 (wrap64 (x6 + 1)) ac aa ad ab ae))) else (none)) else (some true)
end
def r26_numbers.f (k : Nat) (l0 : List (S28)) (aa : Int) (ab : List Int) (ac : List (S53)) (ad : Int) (ae : Int) : Option (Bool) := if (l0.length : Int) > 0 then (if 0 ≤ (wrap64 ((l0.length : Int) - 1)) then (if (wrap64 ((l0.length : Int) - 1)) < (l0.length : Int) then (r26_numbers.j0 k l0 ((rd_T28 l0 (wrap64 ((l0.length : Int) - 1))).f0) aa ab ac ad ae) else (none)) else (none)) else (r26_numbers.j0 k l0 0 aa ab ac ad ae)
theorem r26_numbers.mono_l : ∀ k, (∀ y0 y1 y2 y3 y4 y5 y6, LeO (r26_numbers.j0 k y0 y1 y2 y3 y4 y5 y6) (r26_numbers.j0 (k + 1) y0 y1 y2 y3 y4 y5 y6)) ∧ (∀ y0 y1 y2 y3 y4 y5 y6, LeO (r26_numbers.j1 k y0 y1 y2 y3 y4 y5 y6) (r26_numbers.j1 (k + 1) y0 y1 y2 y3 y4 y5 y6)) ∧ (∀ y0 y1 y2 y3 y4 y5 y6, LeO (r26_numbers.l0 k y0 y1 y2 y3 y4 y5 y6) (r26_numbers.l0 (k + 1) y0 y1 y2 y3 y4 y5 y6))
|0 => ⟨fun _ _ _ _ _ _ _ r h => by simp [r26_numbers.j0] at h,fun _ _ _ _ _ _ _ r h => by simp [r26_numbers.j1] at h,fun _ _ _ _ _ _ _ r h => by simp [r26_numbers.l0] at h⟩
|k + 1 => by
  obtain ⟨ih0,ih1,ih2⟩ := r26_numbers.mono_l k
  refine ⟨?_,?_,?_⟩
  ·intro y0 y1 y2 y3 y4 y5 y6
   unfold r26_numbers.j0
   repeat' (with_reducible first|exact ih1 _ _ _ _ _ _ _|exact LeO.refl _|exact LeO.none _|refine LeO.ite ?_ ?_|refine LeO.bind ?_ (fun _ => ?_))
  ·intro y0 y1 y2 y3 y4 y5 y6
   unfold r26_numbers.j1
   repeat' (with_reducible first|exact ih2 _ _ _ _ _ _ _|exact LeO.refl _|exact LeO.none _|refine LeO.ite ?_ ?_|refine LeO.bind ?_ (fun _ => ?_))
  ·intro y0 y1 y2 y3 y4 y5 y6
   unfold r26_numbers.l0
   repeat' (with_reducible first|exact ih2 _ _ _ _ _ _ _|exact r26_Get.mono _ _ _|exact LeO.refl _|exact LeO.none _|refine LeO.ite ?_ ?_|refine LeO.bind ?_ (fun _ => ?_))
theorem r26_numbers.mono : ∀ a0 a1 a2 a3 a4 a5 k, LeO (r26_numbers.f k a0 a1 a2 a3 a4 a5) (r26_numbers.f (k + 1) a0 a1 a2 a3 a4 a5) := by
 intro a0 a1 a2 a3 a4 a5 k
 obtain ⟨ih0,ih1,ih2⟩ := r26_numbers.mono_l k
 unfold r26_numbers.f
 repeat' (with_reducible first|exact ih0 _ _ _ _ _ _ _|exact ih1 _ _ _ _ _ _ _|exact ih2 _ _ _ _ _ _ _|exact r26_Get.mono _ _ _|exact LeO.refl _|exact LeO.none _|refine LeO.ite ?_ ?_|refine LeO.bind ?_ (fun _ => ?_))
set_option maxHeartbeats 4000000 in
set_option maxRecDepth 100000 in
theorem r26_numbers.calls (k : Nat) (A0 : Option Addr) (c0 : Nat) (l0 : List (S28)) (aj : Int) (aN : Option Addr) (aw : Nat) (ac : List Int) (ax : Option Addr) (ay : Nat) (ai : List (S53)) (af : Int) (ak : Int) (r : Bool) (w : World) (bX : Kd.C k28 w A0 l0.length l0) (bY : l0.length ≤ c0) (aX : Kd.C (Kd.int .i64) w aN ac.length ac) (aY : ac.length ≤ aw) (aZ : Kd.C k53 w ax ai.length ai) (a0 : ai.length ≤ ay) (h : r26_numbers.f k l0 aj ac ai af ak = some r) :
  Calls Tryz.prog 58 #[.slice A0 l0.length c0,.agg #[.int .i64 aj,.slice aN ac.length aw,.slice ax ai.length ay,.int .i64 af,.int .i64 ak]] w fun e w' => e = .returned (.bool r) ∧ Below w.heap.size w w' := by
 have cf := Tryz.underlying28
 have bv := aK bX
 have bH := aK bY
 clear bX bY
 have aQ := aK aX
 have bZ := aK aY
 clear aX aY
 have b1 := aK aZ
 have b2 := aK a0
 clear aZ a0
 have HB := aK (Below.refl w.heap.size w)
 unfold r26_numbers.f at h
 have H := h
 clear h
 have bI := aK H
 clear H
 go_enter Tryz.func58,Tryz.ntmps58
 go_upto_if 11 with (first|((with_reducible refine gate_dst (N := 3) rfl ?_);refine box_event ?hg (N := 3) ?hd (cs := #[.int .i64 aj,.slice aN ac.length aw,.slice ax ai.length ay,.int .i64 af,.int .i64 ak]) (t := 28) ?hr ?_;(case hd => rfl);(case hg => rfl);(case hr => first|(go_simp;done)|(go_simp;rfl));intro ad hg w4 hbox hb;have aa := aK (hbox);have az := aK ((by rw [hg];exact (below_size (bM HB.out)) : w.heap.size ≤ ad));have b3 := Ge.mk az.out;have bh := aK ((by rw [hg];exact (below_size (bM HB.out)) : w.heap.size ≤ ad));have b4 := Ge.mk bh.out;replace HB := aK (below_step (bM HB.out) hb);clear hb hbox hg))
 (try simp only [Act.put,z1_,z2_,z3_])
 go_cut [5] (fun v5 wc => ∃ (kq : Nat) (aV : Int),v5 = .int .i64 aV ∧ Aside0 (r26_numbers.j0 kq l0 aV aj ac ai af ak = some r) ∧ Aside0 (kq ≤ k) ∧ Aside0 (wc.heap[ad]? = some (.cells #[.int .i64 aj,(.slice aN ac.length aw),(.slice ax ai.length ay),.int .i64 af,.int .i64 ak] 28 (0,0))) ∧ Aside0 (Below w.heap.size w wc))
 case first =>
  have H := bI.out
  clear bI
  by_cases c5 : (l0.length : Int) > 0
  ·rw [if_pos c5] at H
   have aR := decide_eq_true c5
   have a6 : decide (0 < l0.length) = true := decide_eq_true (by omega)
   clear c5
   (first|rw [aR]|(simp only [i64_w,i32_w];rw [aR])|rw [a6]|skip)
   obtain ⟨a1,aW⟩ : ∃ j_ : Int,(wrap64 ((l0.length : Int) - 1)) = j_ := ⟨_,rfl⟩
   replace H : (if 0 ≤ (a1) then (if (a1) < (l0.length : Int) then (r26_numbers.j0 k l0 ((rd_T28 l0 (a1)).f0) aj ac ai af ak) else (none)) else (none)) = some r := by first|(rw [aW] at H;exact H)|(simp only [aW] at H ⊢;exact H)
   have b5 : (IntKind.i64.wrap ((l0.length : Int) - 1)) = a1 := (i64_w _).trans aW
   obtain ⟨c7,H⟩ := iS H
   have cg := decide_eq_true c7
   clear c7
   obtain ⟨c8,H⟩ := iS H
   have ch := decide_eq_true c8
   clear c8
   have H' := aK H
   clear H
   have aO : 0 ≤ ((a1) : Int) := dA
   have aP : (a1) < (l0.length : Int) := dA
   obtain ⟨b6,bJ,bK,bL,bN,bO,ao,ap,aq,ar,au,aH,aI,aJ,aL⟩ := at_T28 bv.out (a1) aO aP
   cases bO
   replace ao := xM HB ao
   replace ap := xM HB ap
   replace aq := xM HB aq
   replace ar := xM HB ar
   replace au := xM HB au
   have bx := aK aI
   have bz := aK aH
   clear aI aH
   have bB := aK aL
   have bC := aK aJ
   clear aL aJ
   replace aO := eq_true aO
   replace aP := eq_true aP
   go_wp2
   go_meet
   case rel => exact ⟨_,((rd_T28 l0 (a1)).f0),(by first|rfl|(simp;done)|(rw [Int.tdiv_eq_ediv_of_nonneg (by assumption)];done)|(rw [Int.tmod_eq_emod_of_nonneg (by assumption)];done)|(simp only [← aW] <;> (first|rfl|simp))|(simp [*];done)),H',⟨by first|omega|exact Nat.le_refl _⟩,⟨kM aa.out⟩,⟨bG HB.out⟩⟩
  ·rw [if_neg c5] at H
   have aR := decide_eq_false c5
   have a6 : decide (0 < l0.length) = false := decide_eq_false (by omega)
   clear c5
   (first|rw [aR]|(simp only [i64_w,i32_w];rw [aR])|rw [a6]|skip)
   have H' := aK H
   clear H
   go_wp2
   go_meet
   case rel => exact ⟨_,(0),(by first|rfl|(simp;done)|(simp [*];done)),H',⟨by first|omega|exact Nat.le_refl _⟩,⟨kM aa.out⟩,⟨bG HB.out⟩⟩
 case rest =>
  clear bI
  try clear p2
  try clear p3
  try clear q3
  try clear hx3
  try clear p6
  try clear ao
  try clear ap
  try clear aq
  try clear ar
  try clear au
  try clear aO
  try clear aP
  obtain ⟨kq,aV,rfl,HA,aU,aa,HB⟩ := hcut
  cases kq with
 |zero => exact absurd HA.out (by simp [r26_numbers.j0])
 |succ kj2 =>
   have H := HA.out
   clear HA
   simp only [r26_numbers.j0] at H
   have bP := aK H
   clear H
   go_upto_region 4 with (fail)
   go_cut [47] (fun ci wc => ∃ (kq : Nat) (aM : Bool),ci = .bool aM ∧ Aside0 (r26_numbers.j1 kq l0 aM aj ac ai af ak = some r) ∧ Aside0 (kq ≤ kj2) ∧ Aside0 (wc.heap[ad]? = some (.cells #[.int .i64 aj,(.slice aN ac.length aw),(.slice ax ai.length ay),.int .i64 af,.int .i64 ak] 28 (0,0))) ∧ Aside0 (Below w.heap.size w wc))
   case first =>
    have H := bP.out
    clear bP
    by_cases c10 : aj ≤ aV
    ·rw [if_pos c10] at H
     have aC := decide_eq_true c10
     clear c10
     (first|rw [aC]|(simp only [i64_w,i32_w];rw [aC])|rw [c10b1]|skip)
     have H' := aK H
     clear H
     obtain ⟨_,_,_,_,_,_,_,_,_,_⟩ := bk5_ aa.out
     go_wp2
     go_meet
     case rel => exact ⟨_,(true),(by first|rfl|(simp;done)|(simp [*];done)),H',⟨by have := aU.out;first|omega|exact Nat.le_refl _⟩,⟨kM aa.out⟩,⟨bG HB.out⟩⟩
    ·rw [if_neg c10] at H
     have aC := decide_eq_false c10
     clear c10
     (first|rw [aC]|(simp only [i64_w,i32_w];rw [aC])|rw [c10b1]|skip)
     by_cases bb : aj > 9999
     ·rw [if_pos bb] at H
      have bi := decide_eq_true bb
      clear bb
      have H' := aK H
      clear H
      obtain ⟨_,_,_,_,_,_,_,_,_,_⟩ := bk5_ aa.out
      go_wp2
      go_meet
      case rel => exact ⟨_,(true),(by first|rfl|(simp;done)|(simp [*];done)),H',⟨by have := aU.out;first|omega|exact Nat.le_refl _⟩,⟨kM aa.out⟩,⟨bG HB.out⟩⟩
     ·rw [if_neg bb] at H
      have bi := decide_eq_false bb
      clear bb
      by_cases bc : af < 0
      ·rw [if_pos bc] at H
       have bj := decide_eq_true bc
       clear bc
       have H' := aK H
       clear H
       obtain ⟨_,_,_,_,_,_,_,_,_,_⟩ := bk5_ aa.out
       go_wp2
       go_meet
       case rel => exact ⟨_,(true),(by first|rfl|(simp;done)|(simp [*];done)),H',⟨by have := aU.out;first|omega|exact Nat.le_refl _⟩,⟨kM aa.out⟩,⟨bG HB.out⟩⟩
      ·rw [if_neg bc] at H
       have bj := decide_eq_false bc
       clear bc
       by_cases bd : af > 1000000
       ·rw [if_pos bd] at H
        have bk := decide_eq_true bd
        clear bd
        have H' := aK H
        clear H
        obtain ⟨_,_,_,_,_,_,_,_,_,_⟩ := bk5_ aa.out
        go_wp2
        go_meet
        case rel => exact ⟨_,(true),(by first|rfl|(simp;done)|(simp [*];done)),H',⟨by have := aU.out;first|omega|exact Nat.le_refl _⟩,⟨kM aa.out⟩,⟨bG HB.out⟩⟩
       ·rw [if_neg bd] at H
        have bk := decide_eq_false bd
        clear bd
        by_cases be : ak < 0
        ·rw [if_pos be] at H
         have bm := decide_eq_true be
         clear be
         have H' := aK H
         clear H
         obtain ⟨_,_,_,_,_,_,_,_,_,_⟩ := bk5_ aa.out
         go_wp2
         go_meet
         case rel => exact ⟨_,(true),(by first|rfl|(simp;done)|(simp [*];done)),H',⟨by have := aU.out;first|omega|exact Nat.le_refl _⟩,⟨kM aa.out⟩,⟨bG HB.out⟩⟩
        ·rw [if_neg be] at H
         have bm := decide_eq_false be
         clear be
         have H' := aK H
         clear H
         obtain ⟨_,_,_,_,_,_,_,_,_,_⟩ := bk5_ aa.out
         go_wp2
         go_meet
         case rel => exact ⟨_,(decide (ak > 9999)),(by first|rfl|(simp;done)|(simp [*];done)),H',⟨by have := aU.out;first|omega|exact Nat.le_refl _⟩,⟨kM aa.out⟩,⟨bG HB.out⟩⟩
   case rest =>
    clear bP
    try clear p2
    try clear p3
    try clear q3
    try clear hx3
    try clear p6
    try clear ao
    try clear ap
    try clear aq
    try clear ar
    try clear au
    try clear p2
    try clear p3
    try clear aO
    try clear p6
    try clear q3
    try clear aP
    obtain ⟨kq,aM,rfl,HA,bD,aa,HB⟩ := hcut
    cases kq with
   |zero => exact absurd HA.out (by simp [r26_numbers.j1])
   |succ kj8 =>
     have H := HA.out
     clear HA
     simp only [r26_numbers.j1] at H
     by_cases bn : aM = true
     ·subst bn
      rw [if_pos rfl] at H
      obtain rfl := Option.some.inj H
      go_wp2
      go_ret
      exact ⟨by first|rfl|(simp [errW_none,errW_some] <;> rfl)|(simp [*,errW_none,errW_some] <;> rfl),bG HB.out⟩
     ·replace bn := Bool.eq_false_iff.mpr bn
      subst bn
      rw [if_neg (show ¬ (false = true) by decide)] at H
      have H' := aK H
      clear H
      go_wp2
      go_loopg [6] kj8 (fun kq v6 w' => ∃ (ae : Int),v6 = .int .i64 ae ∧ Aside0 (r26_numbers.l0 kq l0 ae aj ac ai af ak = some r) ∧ Aside0 (kq ≤ kj8) ∧ Aside0 (w'.heap[ad]? = some (.cells #[.int .i64 aj,(.slice aN ac.length aw),(.slice ax ai.length ay),.int .i64 af,.int .i64 ak] 28 (0,0))) ∧ Aside0 (Below w.heap.size w w'))
      case atStart => exact ⟨(0),(by first|rfl|(simp;done)|(simp [*];done)),H',⟨Nat.le_refl _⟩,⟨kM aa.out⟩,⟨bG HB.out⟩⟩
      case round =>
       clear H'
       try clear p2
       try clear p3
       try clear q3
       try clear hx3
       try clear p6
       try clear bn
       try clear ao
       try clear ap
       try clear aq
       try clear ar
       try clear au
       try clear p2
       try clear p3
       try clear aO
       try clear p6
       try clear q3
       try clear aP
       obtain ⟨ae,rfl,HA,bE,aa,HB⟩ := hrel
       cases gk with
      |zero => exact absurd HA.out (by simp [r26_numbers.l0])
      |succ k3 =>
        have H := HA.out
        clear HA
        simp only [r26_numbers.l0] at H
        by_cases bf : ae < (ac.length : Int)
        ·rw [if_pos bf] at H
         have bo := decide_eq_true bf
         clear bf
         obtain ⟨b7,H⟩ := iS H
         have b8 := decide_eq_true b7
         clear b7
         replace H := Option.bind_eq_some_iff.mp H
         obtain ⟨⟨a7,a8,a9,aS,ba,bp⟩,bq,H⟩ := H
         replace H : (if bp = true then (if af < aS then (some false) else (r26_numbers.l0 k3 l0 (wrap64 (ae + 1)) aj ac ai af ak)) else (r26_numbers.l0 k3 l0 (wrap64 (ae + 1)) aj ac ai af ak)) = some r := H
         have bQ := aK bq
         clear bq
         by_cases bF : bp = true
         ·subst bF
          rw [if_pos rfl] at H
          by_cases bg : af < aS
          ·rw [if_pos bg] at H
           have br := decide_eq_true bg
           clear bg
           obtain rfl := Option.some.inj H
           obtain ⟨_,_,_,_,_,_,_,_,_,_⟩ := bk5_ aa.out
           have aA : 0 ≤ (ae : Int) := dA
           have aB : ae < (ac.length : Int) := dA
           obtain ⟨av,aT,ag⟩ := Kd.at_int aQ.out ae aA aB
           cases aT
           replace ag := xM HB ag
           replace aA := eq_true aA
           replace aB := eq_true aB
           go_wp2_with (first|((with_reducible refine gate_callee (f := 13) rfl ?_);refine gL 62 Tryz.func13 #[.slice A0 l0.length c0,.int .i64 (rd ac ae)] ?_;(with_reducible refine (r26_Get.calls k3 (fun k_ => k_ < w.heap.size) _ _ l0 (rd ac ae) a7 a8 a9 aS ba true _ ?aD bQ.out).mono ?_);(case aD => exact Kd.V_mk bH.out (Kd.F_below (Kd.C_F k28_heap bv.out) (bG HB.out)));rintro e cw ⟨bs,bu,rfl,a2,a3,hb⟩;refine ⟨_,rfl,?_⟩;have am := aK (Kd.V_lower (Kd.V_mono (ok' := fun k_ => k_ ≠ ad) a2 (fun k_ hk_ => Or.elim hk_ (fun hs_ => fun e_ => Nat.not_le.2 hs_ (by rw [e_];exact az.out)) (fun hn_ => (Kd.freshB (g := ad) (o := .cells #[.int .i64 aj,.slice (some av) ac.length aw,.slice ax ai.length ay,.int .i64 af,.int .i64 ak] 28 (0,0)) (kM aa.out) k_ hn_)))) (below_size (bG HB.out)));have an := aK (Kd.V_lower (Kd.V_mono (ok' := fun k_ => k_ ≠ ad) a3 (fun k_ hk_ => Or.elim hk_ (fun hs_ => fun e_ => Nat.not_le.2 hs_ (by rw [e_];exact az.out)) (fun hn_ => (Kd.freshB (g := ad) (o := .cells #[.int .i64 aj,.slice (some av) ac.length aw,.slice ax ai.length ay,.int .i64 af,.int .i64 ak] 28 (0,0)) (kM aa.out) k_ hn_)))) (below_size (bG HB.out)));replace aa := aK (blk_below (kM aa.out) hb);replace HB := aK (below_step (bG HB.out) hb);(try clear hb);(try clear a2);(try clear a3))|((with_reducible refine gate_dst (N := 7) rfl ?_);refine box_event ?hg (N := 7) ?hd (cs := #[.int .i64 0,.slice none 0 0,.slice none 0 0,.int .i64 0,.int .i64 0]) (t := 28) ?hr ?_;(case hd => rfl);(case hg => rfl);(case hr => first|(go_simp;done)|(go_simp;rfl));intro ah hg cx hbox hb;replace am := aK (Kd.V_below (Kd.V_elderB (vM am.out) ah (Nat.le_of_eq hg.symm)) hb);replace an := aK (Kd.V_below (Kd.V_elderB (vM an.out) ah (Nat.le_of_eq hg.symm)) hb);have aE := aK (hbox);have aF := aK ((by rw [hg];exact (below_size (bG HB.out)) : w.heap.size ≤ ah));have a4 := Ge.mk aF.out;have aG := aK ((by rw [hg];exact (below_size (bG HB.out)) : w.heap.size ≤ ah));have a5 := Ge.mk aG.out;replace HB := aK (below_step (bG HB.out) hb);have ab := aK (nbL aa.out hg);have al := aK (nbR aa.out hg);replace aa := aK (blk_below (kM aa.out) hb);clear hb hbox hg;have b9 := al.out;have ca := ab.out;obtain ⟨_,_,_,_,_,_,_,_,_,_⟩ := bk5_ aE.out;obtain ⟨cj,ck,bR⟩ := Kd.V_slice am.out;subst bR;obtain ⟨cl,cm,bS⟩ := Kd.V_slice an.out;subst bS;obtain ⟨_,_,_,_,_,_,_,_,_,_⟩ := bk5_ aa.out))
           go_ret
           exact ⟨by first|rfl|(simp [errW_none,errW_some] <;> rfl)|(simp [*,errW_none,errW_some] <;> rfl),bG HB.out⟩
          ·rw [if_neg bg] at H
           have br := decide_eq_false bg
           clear bg
           have H' := aK H
           clear H
           obtain ⟨_,_,_,_,_,_,_,_,_,_⟩ := bk5_ aa.out
           have aA : 0 ≤ (ae : Int) := dA
           have aB : ae < (ac.length : Int) := dA
           obtain ⟨av,aT,ag⟩ := Kd.at_int aQ.out ae aA aB
           cases aT
           replace ag := xM HB ag
           replace aA := eq_true aA
           replace aB := eq_true aB
           go_wp2_with (first|((with_reducible refine gate_callee (f := 13) rfl ?_);refine gL 62 Tryz.func13 #[.slice A0 l0.length c0,.int .i64 (rd ac ae)] ?_;(with_reducible refine (r26_Get.calls k3 (fun k_ => k_ < w.heap.size) _ _ l0 (rd ac ae) a7 a8 a9 aS ba true _ ?aD bQ.out).mono ?_);(case aD => exact Kd.V_mk bH.out (Kd.F_below (Kd.C_F k28_heap bv.out) (bG HB.out)));rintro e cy ⟨bs,bu,rfl,a2,a3,hb⟩;refine ⟨_,rfl,?_⟩;have am := aK (Kd.V_lower (Kd.V_mono (ok' := fun k_ => k_ ≠ ad) a2 (fun k_ hk_ => Or.elim hk_ (fun hs_ => fun e_ => Nat.not_le.2 hs_ (by rw [e_];exact az.out)) (fun hn_ => (Kd.freshB (g := ad) (o := .cells #[.int .i64 aj,.slice (some av) ac.length aw,.slice ax ai.length ay,.int .i64 af,.int .i64 ak] 28 (0,0)) (kM aa.out) k_ hn_)))) (below_size (bG HB.out)));have an := aK (Kd.V_lower (Kd.V_mono (ok' := fun k_ => k_ ≠ ad) a3 (fun k_ hk_ => Or.elim hk_ (fun hs_ => fun e_ => Nat.not_le.2 hs_ (by rw [e_];exact az.out)) (fun hn_ => (Kd.freshB (g := ad) (o := .cells #[.int .i64 aj,.slice (some av) ac.length aw,.slice ax ai.length ay,.int .i64 af,.int .i64 ak] 28 (0,0)) (kM aa.out) k_ hn_)))) (below_size (bG HB.out)));replace aa := aK (blk_below (kM aa.out) hb);replace HB := aK (below_step (bG HB.out) hb);(try clear hb);(try clear a2);(try clear a3))|((with_reducible refine gate_dst (N := 7) rfl ?_);refine box_event ?hg (N := 7) ?hd (cs := #[.int .i64 0,.slice none 0 0,.slice none 0 0,.int .i64 0,.int .i64 0]) (t := 28) ?hr ?_;(case hd => rfl);(case hg => rfl);(case hr => first|(go_simp;done)|(go_simp;rfl));intro ah hg cz hbox hb;replace am := aK (Kd.V_below (Kd.V_elderB (vM am.out) ah (Nat.le_of_eq hg.symm)) hb);replace an := aK (Kd.V_below (Kd.V_elderB (vM an.out) ah (Nat.le_of_eq hg.symm)) hb);have aE := aK (hbox);have aF := aK ((by rw [hg];exact (below_size (bG HB.out)) : w.heap.size ≤ ah));have a4 := Ge.mk aF.out;have aG := aK ((by rw [hg];exact (below_size (bG HB.out)) : w.heap.size ≤ ah));have a5 := Ge.mk aG.out;replace HB := aK (below_step (bG HB.out) hb);have ab := aK (nbL aa.out hg);have al := aK (nbR aa.out hg);replace aa := aK (blk_below (kM aa.out) hb);clear hb hbox hg;have cb := al.out;have cc := ab.out;obtain ⟨_,_,_,_,_,_,_,_,_,_⟩ := bk5_ aE.out;obtain ⟨cn,co,bT⟩ := Kd.V_slice am.out;subst bT;obtain ⟨cp,cq,bU⟩ := Kd.V_slice an.out;subst bU;obtain ⟨_,_,_,_,_,_,_,_,_,_⟩ := bk5_ aa.out))
           go_roundg k3
           case measure => have := aU.out;have := bD.out;have := bE.out;omega
           case rel => exact ⟨(wrap64 (ae + 1)),(by first|rfl|(simp;done)|(simp [*];done)),H',⟨by have := aU.out;have := bD.out;have := bE.out;omega⟩,⟨by refine kO ?_;refine blk_far ?_ ab.out _;refine kO ?_;refine blk_far ?_ ab.out _;refine kO ?_;refine blk_far ?_ ab.out _;refine kO ?_;refine blk_far ?_ ab.out _;refine kO ?_;refine blk_far ?_ ab.out _;refine kO ?_;exact aa.out⟩,⟨bG HB.out⟩⟩
         ·replace bF := Bool.eq_false_iff.mpr bF
          subst bF
          rw [if_neg (show ¬ (false = true) by decide)] at H
          have H' := aK H
          clear H
          obtain ⟨_,_,_,_,_,_,_,_,_,_⟩ := bk5_ aa.out
          have aA : 0 ≤ (ae : Int) := dA
          have aB : ae < (ac.length : Int) := dA
          obtain ⟨av,aT,ag⟩ := Kd.at_int aQ.out ae aA aB
          cases aT
          replace ag := xM HB ag
          replace aA := eq_true aA
          replace aB := eq_true aB
          go_wp2_with (first|((with_reducible refine gate_callee (f := 13) rfl ?_);refine gL 62 Tryz.func13 #[.slice A0 l0.length c0,.int .i64 (rd ac ae)] ?_;(with_reducible refine (r26_Get.calls k3 (fun k_ => k_ < w.heap.size) _ _ l0 (rd ac ae) a7 a8 a9 aS ba false _ ?aD bQ.out).mono ?_);(case aD => exact Kd.V_mk bH.out (Kd.F_below (Kd.C_F k28_heap bv.out) (bG HB.out)));rintro e cA ⟨bs,bu,rfl,a2,a3,hb⟩;refine ⟨_,rfl,?_⟩;have am := aK (Kd.V_lower (Kd.V_mono (ok' := fun k_ => k_ ≠ ad) a2 (fun k_ hk_ => Or.elim hk_ (fun hs_ => fun e_ => Nat.not_le.2 hs_ (by rw [e_];exact az.out)) (fun hn_ => (Kd.freshB (g := ad) (o := .cells #[.int .i64 aj,.slice (some av) ac.length aw,.slice ax ai.length ay,.int .i64 af,.int .i64 ak] 28 (0,0)) (kM aa.out) k_ hn_)))) (below_size (bG HB.out)));have an := aK (Kd.V_lower (Kd.V_mono (ok' := fun k_ => k_ ≠ ad) a3 (fun k_ hk_ => Or.elim hk_ (fun hs_ => fun e_ => Nat.not_le.2 hs_ (by rw [e_];exact az.out)) (fun hn_ => (Kd.freshB (g := ad) (o := .cells #[.int .i64 aj,.slice (some av) ac.length aw,.slice ax ai.length ay,.int .i64 af,.int .i64 ak] 28 (0,0)) (kM aa.out) k_ hn_)))) (below_size (bG HB.out)));replace aa := aK (blk_below (kM aa.out) hb);replace HB := aK (below_step (bG HB.out) hb);(try clear hb);(try clear a2);(try clear a3))|((with_reducible refine gate_dst (N := 7) rfl ?_);refine box_event ?hg (N := 7) ?hd (cs := #[.int .i64 0,.slice none 0 0,.slice none 0 0,.int .i64 0,.int .i64 0]) (t := 28) ?hr ?_;(case hd => rfl);(case hg => rfl);(case hr => first|(go_simp;done)|(go_simp;rfl));intro ah hg cB hbox hb;replace am := aK (Kd.V_below (Kd.V_elderB (vM am.out) ah (Nat.le_of_eq hg.symm)) hb);replace an := aK (Kd.V_below (Kd.V_elderB (vM an.out) ah (Nat.le_of_eq hg.symm)) hb);have aE := aK (hbox);have aF := aK ((by rw [hg];exact (below_size (bG HB.out)) : w.heap.size ≤ ah));have a4 := Ge.mk aF.out;have aG := aK ((by rw [hg];exact (below_size (bG HB.out)) : w.heap.size ≤ ah));have a5 := Ge.mk aG.out;replace HB := aK (below_step (bG HB.out) hb);have ab := aK (nbL aa.out hg);have al := aK (nbR aa.out hg);replace aa := aK (blk_below (kM aa.out) hb);clear hb hbox hg;have cd := al.out;have ce := ab.out;obtain ⟨_,_,_,_,_,_,_,_,_,_⟩ := bk5_ aE.out;obtain ⟨cr,ct,bV⟩ := Kd.V_slice am.out;subst bV;obtain ⟨cu,cv,bW⟩ := Kd.V_slice an.out;subst bW))
          go_roundg k3
          case measure => have := aU.out;have := bD.out;have := bE.out;omega
          case rel => exact ⟨(wrap64 (ae + 1)),(by first|rfl|(simp;done)|(simp [*];done)),H',⟨by have := aU.out;have := bD.out;have := bE.out;omega⟩,⟨by refine kO ?_;refine blk_far ?_ ab.out _;refine kO ?_;refine blk_far ?_ ab.out _;refine kO ?_;refine blk_far ?_ ab.out _;refine kO ?_;refine blk_far ?_ ab.out _;refine kO ?_;refine blk_far ?_ ab.out _;refine kO ?_;exact aa.out⟩,⟨bG HB.out⟩⟩
        ·rw [if_neg bf] at H
         have bo := decide_eq_false bf
         clear bf
         obtain rfl := Option.some.inj H
         obtain ⟨_,_,_,_,_,_,_,_,_,_⟩ := bk5_ aa.out
         go_wp2
         go_ret
         exact ⟨by first|rfl|(simp [errW_none,errW_some] <;> rfl)|(simp [*,errW_none,errW_some] <;> rfl),bG HB.out⟩
end Go.Proofs.YtgadbpljlpclnaaGreatDoor.H
