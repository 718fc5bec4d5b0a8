import Derived.Test.YtobdkgoapcbipaaGreatDoorJx0
import Derived.Test.YtobdkgoapcbipaaGreatDoorJx1
import Derived.Test.YtobdkgoapcbipaaGreatDoorJx12
import Derived.Test.YtobdkgoapcbipaaGreatDoorJx14
import Derived.Test.YtobdkgoapcbipaaGreatDoorJx15
namespace Go.Proofs.YtobdkgoapcbipaaGreatDoor.J
open Go.RowKit Go.Proofs.YtobdkgoapcbipaaGreatDoorW.PrintWords Go.Proofs.YtobdkgoapcbipaaGreatDoorW.PrintLast Go.Proofs.YtobdkgoapcbipaaGreatDoorW.PrintMore
set_option maxHeartbeats 4000000
set_option maxRecDepth 100000
attribute [local go_sem] max2_int min2_int max_two min_two max_three min_three max_four min_four
set_option linter.unusedVariables false
set_option linter.unusedSimpArgs false

/-! ### r05_Put: function 55 -/
mutual
def r05_Put.l0 : Nat → List Int → Int → List Int → Bool → Int → Option (List Int)
|0,_,_,_,_,_ => none
|k + 1,x0,x1,x5,x6,x7 => if x7 < (x0.length : Int) then (if x6 = true then (r05_Put.j1 k x0 x1 x5 x6 x7 false) else (if 0 ≤ x7 then (r05_Put.j1 k x0 x1 x5 x6 x7 (decide ((rd x0 x7) ≥ x1))) else (none))) else (if x6 = true then (some x5) else (if x5.length < 17592186044416 then (some (x5 ++ [x1])) else (none)))
def r05_Put.j1 : Nat → List Int → Int → List Int → Bool → Int → Bool → Option (List Int)
|0,_,_,_,_,_,_ => none
|k + 1,x0,x1,x5,x6,x7,ab => if ab = true then (if 0 ≤ x7 then (if x7 < (x0.length : Int) then (if (rd x0 x7) > x1 then (if x5.length < 17592186044416 then ((some (x5 ++ [x1] : List Int)).bind fun aa => (if aa.length < 17592186044416 then (r05_Put.l0 k x0 x1 (aa ++ [rd x0 x7]) true (wrap64 (x7 + 1))) else (none))) else (none)) else (if x5.length < 17592186044416 then (r05_Put.l0 k x0 x1 (x5 ++ [rd x0 x7]) true (wrap64 (x7 + 1))) else (none))) else (none)) else (none)) else (if 0 ≤ x7 then (if x7 < (x0.length : Int) then (if x5.length < 17592186044416 then (r05_Put.l0 k x0 x1 (x5 ++ [rd x0 x7]) x6 (wrap64 (x7 + 1))) else (none)) else (none)) else (none))
end
def r05_Put.f (k : Nat) (l0 : List Int) (a1 : Int) : Option (List Int) := r05_Put.l0 k l0 a1 (([] : List Int)) false 0
theorem r05_Put.mono_l : ∀ k, (∀ y0 y1 y2 y3 y4, LeO (r05_Put.l0 k y0 y1 y2 y3 y4) (r05_Put.l0 (k + 1) y0 y1 y2 y3 y4)) ∧ (∀ y0 y1 y2 y3 y4 y5, LeO (r05_Put.j1 k y0 y1 y2 y3 y4 y5) (r05_Put.j1 (k + 1) y0 y1 y2 y3 y4 y5))
|0 => ⟨fun _ _ _ _ _ r h => by simp [r05_Put.l0] at h,fun _ _ _ _ _ _ r h => by simp [r05_Put.j1] at h⟩
|k + 1 => by
  obtain ⟨ih0,ih1⟩ := r05_Put.mono_l k
  refine ⟨?_,?_⟩
  ·intro y0 y1 y2 y3 y4
   unfold r05_Put.l0
   repeat' (with_reducible first|exact ih1 _ _ _ _ _ _|exact LeO.refl _|exact LeO.none _|refine LeO.ite ?_ ?_|refine LeO.bind ?_ (fun _ => ?_))
  ·intro y0 y1 y2 y3 y4 y5
   unfold r05_Put.j1
   repeat' (with_reducible first|exact ih0 _ _ _ _ _|exact LeO.refl _|exact LeO.none _|refine LeO.ite ?_ ?_|refine LeO.bind ?_ (fun _ => ?_))
theorem r05_Put.mono : ∀ a0 a1 k, LeO (r05_Put.f k a0 a1) (r05_Put.f (k + 1) a0 a1) := by
 intro a0 a1 k
 obtain ⟨ih0,ih1⟩ := r05_Put.mono_l k
 unfold r05_Put.f
 repeat' (with_reducible first|exact ih0 _ _ _ _ _|exact ih1 _ _ _ _ _ _|exact LeO.refl _|exact LeO.none _|refine LeO.ite ?_ ?_|refine LeO.bind ?_ (fun _ => ?_))
theorem r05_Put.calls (k : Nat) (A0 : Option Addr) (c0 : Nat) (l0 : List Int) (a1 : Int) (r : List Int) (w : World) (bu : Kd.C (Kd.int .i64) w A0 l0.length l0) (bv : l0.length ≤ c0) (h : r05_Put.f k l0 a1 = some r) :
  Calls Tryz.prog 55 #[.slice A0 l0.length c0,.int .i64 a1] w fun e w' => ∃ bx : Value,e = .returned (bx) ∧ Kd.R (Kd.int .i64) 3 w' w.heap.size (fun _ => True) bx r ∧ Below w.heap.size w w' := by
 have aM := aK bu
 have bV := aK bv
 clear bu bv
 have HB := aK (Below.refl w.heap.size w)
 have H : (r05_Put.l0 k l0 a1 (([] : List Int)) false 0) = some r := h
 clear h
 obtain ⟨aR,af⟩ : ∃ y_ : List Int,y_ = (([] : List Int)) := ⟨_,rfl⟩
 replace H : (r05_Put.l0 k l0 a1 aR false 0) = some r := by first|(rw [af];with_reducible exact H)|(have ad := (Option.bind_some _ _).symm.trans H;rw [af];with_reducible exact ad)|(have ad := (Option.bind_some _ _).symm.trans H;with_reducible exact ad)|with_reducible exact H|(rw [af];exact H)|exact H
 have az := aK af
 clear af
 have H' := aK H
 clear H
 go_enter Tryz.func55,Tryz.ntmps55
 go_wp2_with (first|((with_reducible refine gate_dst (N := 8) rfl ?_);refine Kd.R_lit (Kd.int .i64) _ 3 ?hg (N := 8) ?hd (xs := ([] : List Int)) (inner := []) (ok := fun _ => True) (okp := fun _ => True) ?hr ?hp (fun _ hk => hk) trivial (Below.refl _ _) (Nat.le_refl _) (by simp) ?_;(case hd => rfl);(case hg => rfl);(case hr => first|(go_simp;done)|(go_simp;rfl));(case hp => exact (Reps.none _ _));intro bP w3 aT hb hg_ hnew_;clear hg_ hnew_;(first|rw [← az.out] at aT|(simp only [Int.reduceToNat] at aT;rw [← az.out] at aT));have aU := aK (Kd.R_lower aT (below_size (bM HB.out)));replace HB := aK (below_step (bM HB.out) hb);clear hb aT))
 go_loopg [5,6,7] k (fun kq v5 v6 v7 w' => ∃ (ab : List Int) (ag : Bool) (aa : Int),v6 = .bool ag ∧ v7 = .int .i64 aa ∧ Aside0 (r05_Put.l0 kq l0 a1 ab ag aa = some r) ∧ Aside0 (kq ≤ k) ∧ Aside0 (Kd.R (Kd.int .i64) 3 w' w.heap.size (fun _ => True) v5 ab) ∧ Aside0 (Below w.heap.size w w'))
 case atStart => exact ⟨(aR),(false),(0),(by first|rfl|(simp;done)|(simp [*];done)),(by first|rfl|(simp;done)|(simp [*];done)),H',⟨Nat.le_refl _⟩,⟨rM aU.out⟩,⟨bM HB.out⟩⟩
 case round =>
  clear H'
  try clear p2
  obtain ⟨ab,ag,aa,rfl,rfl,HA,aA,ah,HB⟩ := hrel
  cases gk with
 |zero => exact absurd HA.out (by simp [r05_Put.l0])
 |succ k1 =>
   have H := HA.out
   clear HA
   simp only [r05_Put.l0] at H
   by_cases c5 : aa < (l0.length : Int)
   ·rw [if_pos c5] at H
    have aV := decide_eq_true c5
    clear c5
    have bm := aK H
    clear H
    go_upto_region 6 with (fail)
    go_cut [24] (fun bQ wc => ∃ (kq : Nat) (ap : Bool),bQ = .bool ap ∧ Aside0 (r05_Put.j1 kq l0 a1 ab ag aa ap = some r) ∧ Aside0 (kq ≤ k1) ∧ Aside0 (Kd.R (Kd.int .i64) 3 wc w.heap.size (fun _ => True) u5 ab) ∧ Aside0 (Below w.heap.size w wc))
    case first =>
     have H := bm.out
     clear bm
     by_cases c7 : ag = true
     ·subst c7
      rw [if_pos rfl] at H
      have H' := aK H
      clear H
      go_wp2
      go_meet
      case rel => exact ⟨_,(false),(by first|rfl|(simp;done)|(simp [*];done)),H',⟨by have := aA.out;first|omega|exact Nat.le_refl _⟩,⟨rM ah.out⟩,⟨bM HB.out⟩⟩
     ·replace c7 := Bool.eq_false_iff.mpr c7
      subst c7
      rw [if_neg (show ¬ (false = true) by decide)] at H
      obtain ⟨c8,H⟩ := iS H
      have aW := decide_eq_true c8
      clear c8
      (first|rw [aW]|(simp only [i64_w,i32_w];rw [aW])|rw [c8b1]|skip)
      have H' := aK H
      clear H
      have aw : 0 ≤ (aa : Int) := dA
      have ax : aa < (l0.length : Int) := dA
      obtain ⟨bz,bn,ae⟩ := Kd.at_int aM.out aa aw ax
      cases bn
      replace ae := xM HB ae
      replace aw := eq_true aw
      replace ax := eq_true ax
      go_wp2
      go_meet
      case rel => exact ⟨_,(decide ((rd l0 aa) ≥ a1)),(by first|rfl|(simp;done)|(simp [*];done)),H',⟨by have := aA.out;first|omega|exact Nat.le_refl _⟩,⟨rM ah.out⟩,⟨bM HB.out⟩⟩
    case rest =>
     clear bm
     try clear p2
     try clear p4
     try clear q4
     try clear hx4
     try clear c5
     try clear aV
     try clear ae
     try clear p2
     try clear aw
     try clear ax
     obtain ⟨kq,ap,rfl,HA,aN,ah,HB⟩ := hcut
     cases kq with
    |zero => exact absurd HA.out (by simp [r05_Put.j1])
    |succ kj5 =>
      have H := HA.out
      clear HA
      simp only [r05_Put.j1] at H
      by_cases c9 : ap = true
      ·subst c9
       rw [if_pos rfl] at H
       obtain ⟨c10,H⟩ := iS H
       have bB := decide_eq_true c10
       clear c10
       obtain ⟨bC,H⟩ := iS H
       have bD := decide_eq_true bC
       clear bC
       by_cases aQ : (rd l0 aa) > a1
       ·rw [if_pos aQ] at H
        have aX := decide_eq_true aQ
        clear aQ
        obtain ⟨bE,H⟩ := iS H
        have aY := aK bE
        clear bE
        obtain ⟨ay,ai⟩ : ∃ y_ : List Int,y_ = (ab ++ [a1]) := ⟨_,rfl⟩
        replace H : (if ay.length < 17592186044416 then (r05_Put.l0 kj5 l0 a1 (ay ++ [rd l0 aa]) true (wrap64 (aa + 1))) else (none)) = some r := by first|(rw [ai];with_reducible exact H)|(have ad := (Option.bind_some _ _).symm.trans H;rw [ai];with_reducible exact ad)|(have ad := (Option.bind_some _ _).symm.trans H;with_reducible exact ad)|with_reducible exact H|(rw [ai];exact H)|exact H
        have aZ := aK ai
        clear ai
        obtain ⟨bF,H⟩ := iS H
        have a0 := aK bF
        clear bF
        obtain ⟨a2,aj⟩ : ∃ y_ : List Int,y_ = (ay ++ [rd l0 aa]) := ⟨_,rfl⟩
        replace H : (r05_Put.l0 kj5 l0 a1 a2 true (wrap64 (aa + 1))) = some r := by first|(rw [aj];with_reducible exact H)|(have ad := (Option.bind_some _ _).symm.trans H;rw [aj];with_reducible exact ad)|(have ad := (Option.bind_some _ _).symm.trans H;with_reducible exact ad)|with_reducible exact H|(rw [aj];exact H)|exact H
        have a3 := aK aj
        clear aj
        have H' := aK H
        clear H
        have an : 0 ≤ (aa : Int) := dA
        have ao : aa < (l0.length : Int) := dA
        obtain ⟨av,aC,ac⟩ := Kd.at_int aM.out aa an ao
        cases aC
        replace ac := xM HB ac
        replace an := eq_true an
        replace ao := eq_true ao
        go_wp2_with (first|((with_reducible refine gate_builtin (b := .append) (xs := #[.tmp 31,.tmp 33]) rfl ?_);at_builtin;refine Kd.R_append (Kd.int .i64) (w0 := w) w.heap.size rfl (.tmp 31) (.tmp 33) 28 3 (.int .i64 0) 8 rfl Tryz.underlying28 info3 rfl (by decide) (by omega) u5 ab a1 [.int .i64 a1] (fun _ => True) (fun _ => False) rfl rfl ?aP (fun _ hk => hk.elim) ?aF ?aO ?aB ?aS ?aL ?_;(case aP => exact rfl);(case aB => exact (bM HB.out));(case aF => exact (fun _ _ => trivial));(case aO => exact (rM ah.out));(case aS => exact (below_size (bM HB.out)));(case aL => have := aY.out;omega);intro bo bW ho hb hg hat;rw [← aZ.out] at ho;replace HB := aK (hb);have a4 := aK (ho);clear ho hb hg hat;have aD : 0 ≤ (aa : Int) := dA;have aE : aa < (l0.length : Int) := dA;obtain ⟨a5,bp,aq⟩ := Kd.at_int aM.out aa aD aE;obtain rfl : av = a5 := (by injection bp);replace aq := xM HB aq;replace aD := eq_true aD;replace aE := eq_true aE)|((with_reducible refine gate_builtin (b := .append) (xs := #[.tmp 35,.tmp 40]) rfl ?_);at_builtin;refine Kd.R_append (Kd.int .i64) (w0 := w) w.heap.size rfl (.tmp 35) (.tmp 40) 28 3 (.int .i64 0) 8 rfl Tryz.underlying28 info3 rfl (by decide) (by omega) bo ay (rd l0 aa) [.int .i64 (rd l0 aa)] (fun _ => True) (fun _ => False) rfl rfl ?aP (fun _ hk => hk.elim) ?aF ?aO ?aB ?aS ?aL ?_;(case aP => exact rfl);(case aB => exact (bM HB.out));(case aF => exact (fun _ _ => trivial));(case aO => exact (rM a4.out));(case aS => exact (below_size (bM HB.out)));(case aL => have := a0.out;omega);intro bR bX ho hb hg hat;rw [← a3.out] at ho;replace HB := aK (hb);have a6 := aK (ho);clear ho hb hg hat))
        go_roundg kj5
        case measure => have := aA.out;have := aN.out;omega
        case rel => exact ⟨(a2),(true),(wrap64 (aa + 1)),(by first|rfl|(simp;done)|(simp [*];done)),(by first|rfl|(simp;done)|(simp [*];done)),H',⟨by have := aA.out;have := aN.out;omega⟩,⟨rM a6.out⟩,⟨bM HB.out⟩⟩
       ·rw [if_neg aQ] at H
        have aX := decide_eq_false aQ
        clear aQ
        obtain ⟨bH,H⟩ := iS H
        have a7 := aK bH
        clear bH
        obtain ⟨a8,ak⟩ : ∃ y_ : List Int,y_ = (ab ++ [rd l0 aa]) := ⟨_,rfl⟩
        replace H : (r05_Put.l0 kj5 l0 a1 a8 true (wrap64 (aa + 1))) = some r := by first|(rw [ak];with_reducible exact H)|(have ad := (Option.bind_some _ _).symm.trans H;rw [ak];with_reducible exact ad)|(have ad := (Option.bind_some _ _).symm.trans H;with_reducible exact ad)|with_reducible exact H|(rw [ak];exact H)|exact H
        have a9 := aK ak
        clear ak
        have H' := aK H
        clear H
        have an : 0 ≤ (aa : Int) := dA
        have ao : aa < (l0.length : Int) := dA
        obtain ⟨av,aC,ac⟩ := Kd.at_int aM.out aa an ao
        cases aC
        replace ac := xM HB ac
        replace an := eq_true an
        replace ao := eq_true ao
        have aG : 0 ≤ (aa : Int) := dA
        have aH : aa < (l0.length : Int) := dA
        obtain ⟨ba,bq,ar⟩ := Kd.at_int aM.out aa aG aH
        obtain rfl : av = ba := (by injection bq)
        replace ar := xM HB ar
        replace aG := eq_true aG
        replace aH := eq_true aH
        go_wp2_with (first|((with_reducible refine gate_builtin (b := .append) (xs := #[.tmp 35,.tmp 40]) rfl ?_);at_builtin;refine Kd.R_append (Kd.int .i64) (w0 := w) w.heap.size rfl (.tmp 35) (.tmp 40) 28 3 (.int .i64 0) 8 rfl Tryz.underlying28 info3 rfl (by decide) (by omega) u5 ab (rd l0 aa) [.int .i64 (rd l0 aa)] (fun _ => True) (fun _ => False) rfl rfl ?aP (fun _ hk => hk.elim) ?aF ?aO ?aB ?aS ?aL ?_;(case aP => exact rfl);(case aB => exact (bM HB.out));(case aF => exact (fun _ _ => trivial));(case aO => exact (rM ah.out));(case aS => exact (below_size (bM HB.out)));(case aL => have := a7.out;omega);intro bS bY ho hb hg hat;rw [← a9.out] at ho;replace HB := aK (hb);have bb := aK (ho);clear ho hb hg hat))
        go_roundg kj5
        case measure => have := aA.out;have := aN.out;omega
        case rel => exact ⟨(a8),(true),(wrap64 (aa + 1)),(by first|rfl|(simp;done)|(simp [*];done)),(by first|rfl|(simp;done)|(simp [*];done)),H',⟨by have := aA.out;have := aN.out;omega⟩,⟨rM bb.out⟩,⟨bM HB.out⟩⟩
      ·replace c9 := Bool.eq_false_iff.mpr c9
       subst c9
       rw [if_neg (show ¬ (false = true) by decide)] at H
       obtain ⟨bI,H⟩ := iS H
       have bJ := decide_eq_true bI
       clear bI
       obtain ⟨bK,H⟩ := iS H
       have bL := decide_eq_true bK
       clear bK
       obtain ⟨bN,H⟩ := iS H
       have bc := aK bN
       clear bN
       obtain ⟨bd,al⟩ : ∃ y_ : List Int,y_ = (ab ++ [rd l0 aa]) := ⟨_,rfl⟩
       replace H : (r05_Put.l0 kj5 l0 a1 bd ag (wrap64 (aa + 1))) = some r := by first|(rw [al];with_reducible exact H)|(have ad := (Option.bind_some _ _).symm.trans H;rw [al];with_reducible exact ad)|(have ad := (Option.bind_some _ _).symm.trans H;with_reducible exact ad)|with_reducible exact H|(rw [al];exact H)|exact H
       have be := aK al
       clear al
       have H' := aK H
       clear H
       have aI : 0 ≤ (aa : Int) := dA
       have aJ : aa < (l0.length : Int) := dA
       obtain ⟨bO,br,au⟩ := Kd.at_int aM.out aa aI aJ
       cases br
       replace au := xM HB au
       replace aI := eq_true aI
       replace aJ := eq_true aJ
       go_wp2_with (first|((with_reducible refine gate_builtin (b := .append) (xs := #[.tmp 35,.tmp 40]) rfl ?_);at_builtin;refine Kd.R_append (Kd.int .i64) (w0 := w) w.heap.size rfl (.tmp 35) (.tmp 40) 28 3 (.int .i64 0) 8 rfl Tryz.underlying28 info3 rfl (by decide) (by omega) u5 ab (rd l0 aa) [.int .i64 (rd l0 aa)] (fun _ => True) (fun _ => False) rfl rfl ?aP (fun _ hk => hk.elim) ?aF ?aO ?aB ?aS ?aL ?_;(case aP => exact rfl);(case aB => exact (bM HB.out));(case aF => exact (fun _ _ => trivial));(case aO => exact (rM ah.out));(case aS => exact (below_size (bM HB.out)));(case aL => have := bc.out;omega);intro bT bZ ho hb hg hat;rw [← be.out] at ho;replace HB := aK (hb);have bf := aK (ho);clear ho hb hg hat))
       go_roundg kj5
       case measure => have := aA.out;have := aN.out;omega
       case rel => exact ⟨(bd),(ag),(wrap64 (aa + 1)),(by first|rfl|(simp;done)|(simp [*];done)),(by first|rfl|(simp;done)|(simp [*];done)),H',⟨by have := aA.out;have := aN.out;omega⟩,⟨rM bf.out⟩,⟨bM HB.out⟩⟩
   ·rw [if_neg c5] at H
    have aV := decide_eq_false c5
    clear c5
    by_cases bj : ag = true
    ·subst bj
     rw [if_pos rfl] at H
     obtain rfl := Option.some.inj H
     go_wp2
     go_ret
     exact ⟨_,by first|rfl|(simp [errW_none,errW_some] <;> rfl)|(simp [*,errW_none,errW_some] <;> rfl),rM ah.out,bM HB.out⟩
    ·replace bj := Bool.eq_false_iff.mpr bj
     subst bj
     rw [if_neg (show ¬ (false = true) by decide)] at H
     by_cases bk : ab.length < 17592186044416
     ·rw [if_pos bk] at H
      have bg := aK bk
      clear bk
      obtain ⟨bs,am⟩ : ∃ y_ : List Int,y_ = (ab ++ [a1]) := ⟨_,rfl⟩
      replace H : (some bs) = some r := by first|(rw [am];with_reducible exact H)|(have ad := (Option.bind_some _ _).symm.trans H;rw [am];with_reducible exact ad)|(have ad := (Option.bind_some _ _).symm.trans H;with_reducible exact ad)|with_reducible exact H|(rw [am];exact H)|exact H
      have bh := aK am
      clear am
      obtain rfl := Option.some.inj H
      go_wp2_with (first|((with_reducible refine gate_builtin (b := .append) (xs := #[.tmp 44,.tmp 46]) rfl ?_);at_builtin;refine Kd.R_append (Kd.int .i64) (w0 := w) w.heap.size rfl (.tmp 44) (.tmp 46) 28 3 (.int .i64 0) 8 rfl Tryz.underlying28 info3 rfl (by decide) (by omega) u5 ab a1 [.int .i64 a1] (fun _ => True) (fun _ => False) rfl rfl ?aP (fun _ hk => hk.elim) ?aF ?aO ?aB ?aS ?aL ?_;(case aP => exact rfl);(case aB => exact (bM HB.out));(case aF => exact (fun _ _ => trivial));(case aO => exact (rM ah.out));(case aS => exact (below_size (bM HB.out)));(case aL => have := bg.out;omega);intro bU b1 ho hb hg hat;rw [← bh.out] at ho;replace HB := aK (hb);have bi := aK (ho);clear ho hb hg hat))
      go_ret
      exact ⟨_,by first|rfl|(simp [errW_none,errW_some] <;> rfl)|(simp [*,errW_none,errW_some] <;> rfl),rM bi.out,bM HB.out⟩
     ·rw [if_neg bk] at H
      exact absurd H (by simp)

/-! ### r05_Or: function 28 -/
mutual
def r05_Or.l0 : Nat → List Int → List Int → List Int → Int → Option (List Int)
|0,_,_,_,_ => none
|k + 1,x0,x1,x5,x6 => if x6 < (x0.length : Int) then (if 0 ≤ x6 then ((r05_Put.f k x5 (rd x0 x6)).bind fun aa => (r05_Or.l0 k x0 x1 aa (wrap64 (x6 + 1)))) else (none)) else (r05_Or.l1 k x1 x5 0)
def r05_Or.l1 : Nat → List Int → List Int → Int → Option (List Int)
|0,_,_,_ => none
|k + 1,x1,x5,x7 => if x7 < (x1.length : Int) then (if 0 ≤ x7 then ((r05_Put.f k x5 (rd x1 x7)).bind fun aa => (r05_Or.l1 k x1 aa (wrap64 (x7 + 1)))) else (none)) else (some x5)
end
def r05_Or.f (k : Nat) (l0 : List Int) (l1 : List Int) : Option (List Int) := r05_Or.l0 k l0 l1 (([] : List Int)) 0
theorem r05_Or.mono_l : ∀ k, (∀ y0 y1 y2 y3, LeO (r05_Or.l0 k y0 y1 y2 y3) (r05_Or.l0 (k + 1) y0 y1 y2 y3)) ∧ (∀ y0 y1 y2, LeO (r05_Or.l1 k y0 y1 y2) (r05_Or.l1 (k + 1) y0 y1 y2))
|0 => ⟨fun _ _ _ _ r h => by simp [r05_Or.l0] at h,fun _ _ _ r h => by simp [r05_Or.l1] at h⟩
|k + 1 => by
  obtain ⟨ih0,ih1⟩ := r05_Or.mono_l k
  refine ⟨?_,?_⟩
  ·intro y0 y1 y2 y3
   unfold r05_Or.l0
   repeat' (with_reducible first|exact ih0 _ _ _ _|exact ih1 _ _ _|exact r05_Put.mono _ _ _|exact LeO.refl _|exact LeO.none _|refine LeO.ite ?_ ?_|refine LeO.bind ?_ (fun _ => ?_))
  ·intro y0 y1 y2
   unfold r05_Or.l1
   repeat' (with_reducible first|exact ih1 _ _ _|exact r05_Put.mono _ _ _|exact LeO.refl _|exact LeO.none _|refine LeO.ite ?_ ?_|refine LeO.bind ?_ (fun _ => ?_))
theorem r05_Or.mono : ∀ a0 a1 k, LeO (r05_Or.f k a0 a1) (r05_Or.f (k + 1) a0 a1) := by
 intro a0 a1 k
 obtain ⟨ih0,ih1⟩ := r05_Or.mono_l k
 unfold r05_Or.f
 repeat' (with_reducible first|exact ih0 _ _ _ _|exact ih1 _ _ _|exact r05_Put.mono _ _ _|exact LeO.refl _|exact LeO.none _|refine LeO.ite ?_ ?_|refine LeO.bind ?_ (fun _ => ?_))
theorem r05_Or.calls (k : Nat) (A0 : Option Addr) (c0 : Nat) (l0 : List Int) (A1 : Option Addr) (c1 : Nat) (l1 : List Int) (r : List Int) (w : World) (aJ : Kd.C (Kd.int .i64) w A0 l0.length l0) (aL : l0.length ≤ c0) (aM : Kd.C (Kd.int .i64) w A1 l1.length l1) (aN : l1.length ≤ c1) (h : r05_Or.f k l0 l1 = some r) :
  Calls Tryz.prog 28 #[.slice A0 l0.length c0,.slice A1 l1.length c1] w fun e w' => ∃ aO : Value,e = .returned (aO) ∧ Kd.R (Kd.int .i64) 3 w' w.heap.size (fun _ => True) aO r ∧ Below w.heap.size w w' := by
 have aV := aK aJ
 have a5 := aK aL
 clear aJ aL
 have aW := aK aM
 have a6 := aK aN
 clear aM aN
 have HB := aK (Below.refl w.heap.size w)
 have H : (r05_Or.l0 k l0 l1 (([] : List Int)) 0) = some r := h
 clear h
 obtain ⟨aq,ae⟩ : ∃ y_ : List Int,y_ = (([] : List Int)) := ⟨_,rfl⟩
 replace H : (r05_Or.l0 k l0 l1 aq 0) = some r := by first|(rw [ae];with_reducible exact H)|(have aD := (Option.bind_some _ _).symm.trans H;rw [ae];with_reducible exact aD)|(have aD := (Option.bind_some _ _).symm.trans H;with_reducible exact aD)|with_reducible exact H|(rw [ae];exact H)|exact H
 have am := aK ae
 clear ae
 have H' := aK H
 clear H
 go_enter Tryz.func28,Tryz.ntmps28
 go_wp2_with (first|((with_reducible refine gate_dst (N := 8) rfl ?_);refine Kd.R_lit (Kd.int .i64) _ 3 ?hg (N := 8) ?hd (xs := ([] : List Int)) (inner := []) (ok := fun _ => True) (okp := fun _ => True) ?hr ?hp (fun _ hk => hk) trivial (Below.refl _ _) (Nat.le_refl _) (by simp) ?_;(case hd => rfl);(case hg => rfl);(case hr => first|(go_simp;done)|(go_simp;rfl));(case hp => exact (Reps.none _ _));intro aX w3 ar hb hg_ hnew_;clear hg_ hnew_;(first|rw [← am.out] at ar|(simp only [Int.reduceToNat] at ar;rw [← am.out] at ar));have au := aK (Kd.R_lower ar (below_size (bM HB.out)));replace HB := aK (below_step (bM HB.out) hb);clear hb ar))
 go_loopg [5,6] k (fun kq v5 v6 w' => ∃ (ag : List Int) (ab : Int),v6 = .int .i64 ab ∧ Aside0 (r05_Or.l0 kq l0 l1 ag ab = some r) ∧ Aside0 (kq ≤ k) ∧ Aside0 (Kd.R (Kd.int .i64) 3 w' w.heap.size (fun _ => True) v5 ag) ∧ Aside0 (Below w.heap.size w w'))
 case atStart => exact ⟨(aq),(0),(by first|rfl|(simp;done)|(simp [*];done)),H',⟨Nat.le_refl _⟩,⟨rM au.out⟩,⟨bM HB.out⟩⟩
 case round =>
  clear H'
  try clear p2
  obtain ⟨ag,ab,rfl,HA,aC,aa,HB⟩ := hrel
  cases gk with
 |zero => exact absurd HA.out (by simp [r05_Or.l0])
 |succ k1 =>
   have H := HA.out
   clear HA
   simp only [r05_Or.l0] at H
   by_cases c5 : ab < (l0.length : Int)
   ·rw [if_pos c5] at H
    have av := decide_eq_true c5
    clear c5
    obtain ⟨c6,H⟩ := iS H
    have aY := decide_eq_true c6
    clear c6
    replace H := Option.bind_eq_some_iff.mp H
    obtain ⟨aw,aP,H⟩ := H
    have A7 := aK aP
    clear aP
    have H' := aK H
    clear H
    have ak : 0 ≤ (ab : Int) := dA
    have al : ab < (l0.length : Int) := dA
    obtain ⟨aQ,aE,ad⟩ := Kd.at_int aV.out ab ak al
    cases aE
    replace ad := xM HB ad
    replace ak := eq_true ak
    replace al := eq_true al
    obtain ⟨aZ,a0,a1⟩ := Kd.R_slice aa.out
    subst a1
    go_wp2_with (first|((with_reducible refine gate_callee (f := 55) rfl ?_);refine gL 20 Tryz.func55 #[.slice aZ ag.length a0,.int .i64 (rd l0 ab)] ?_;(with_reducible refine (r05_Put.calls k1 _ _ ag (rd l0 ab) aw _ ?ah ?ai A7.out).mono ?_);(case ah => exact cM (Kd.R_reads' aa.out).2.2);(case ai => exact (Kd.R_reads' aa.out).2.1);rintro e w9 ⟨a2,rfl,an,hb⟩;refine ⟨_,rfl,?_⟩;have ax := aK (Kd.R_lower (Kd.R_new' an (Kd.R_lt (rM aa.out))) (below_size (bM HB.out)));replace aa := aK (Kd.R_elder' (rM aa.out) (Kd.R_base an) hb);replace HB := aK (below_step (bM HB.out) hb);(try clear hb);(try clear hk);(try clear an)))
    go_roundg k1
    case measure => have := aC.out;omega
    case rel => exact ⟨(aw),(wrap64 (ab + 1)),(by first|rfl|(simp;done)|(simp [*];done)),H',⟨by have := aC.out;omega⟩,⟨rM (Kd.R_mono ax.out (fun _ hk => trivial))⟩,⟨bM HB.out⟩⟩
   ·rw [if_neg c5] at H
    have av := decide_eq_false c5
    clear c5
    have H' := aK H
    clear H
    go_wp2
    go_loopg [5,7] k1 (fun kq v5 v7 w' => ∃ (aj : List Int) (ac : Int),v7 = .int .i64 ac ∧ Aside0 (r05_Or.l1 kq l1 aj ac = some r) ∧ Aside0 (kq ≤ k1) ∧ Aside0 (Kd.R (Kd.int .i64) 3 w' w.heap.size (fun _ => True) v5 aj) ∧ Aside0 (Below w.heap.size w w'))
    case atStart => exact ⟨(ag),(0),(by first|rfl|(simp;done)|(simp [*];done)),H',⟨Nat.le_refl _⟩,⟨rM aa.out⟩,⟨bM HB.out⟩⟩
    case round =>
     clear H'
     try clear p2
     try clear p4
     try clear q4
     try clear hx4
     try clear c5
     try clear av
     try clear p6
     try clear ad
     try clear p2
     try clear ak
     try clear al
     obtain ⟨aj,ac,rfl,HA,aR,aa,HB⟩ := hrel
     cases gk with
    |zero => exact absurd HA.out (by simp [r05_Or.l1])
    |succ k2 =>
      have H := HA.out
      clear HA
      simp only [r05_Or.l1] at H
      by_cases c10 : ac < (l1.length : Int)
      ·rw [if_pos c10] at H
       have ay := decide_eq_true c10
       clear c10
       obtain ⟨aS,H⟩ := iS H
       have aT := decide_eq_true aS
       clear aS
       replace H := Option.bind_eq_some_iff.mp H
       obtain ⟨az,aA,H⟩ := H
       have a3 := aK aA
       clear aA
       have H' := aK H
       clear H
       have ao : 0 ≤ (ac : Int) := dA
       have ap : ac < (l1.length : Int) := dA
       obtain ⟨aU,aF,af⟩ := Kd.at_int aW.out ac ao ap
       cases aF
       replace af := xM HB af
       replace ao := eq_true ao
       replace ap := eq_true ap
       obtain ⟨aG,aH,aI⟩ := Kd.R_slice aa.out
       subst aI
       go_wp2_with (first|((with_reducible refine gate_callee (f := 55) rfl ?_);refine gL 32 Tryz.func55 #[.slice aG aj.length aH,.int .i64 (rd l1 ac)] ?_;(with_reducible refine (r05_Put.calls k2 _ _ aj (rd l1 ac) az _ ?ah ?ai a3.out).mono ?_);(case ah => exact cM (Kd.R_reads' aa.out).2.2);(case ai => exact (Kd.R_reads' aa.out).2.1);rintro e a7 ⟨a4,rfl,an,hb⟩;refine ⟨_,rfl,?_⟩;have aB := aK (Kd.R_lower (Kd.R_new' an (Kd.R_lt (rM aa.out))) (below_size (bM HB.out)));replace aa := aK (Kd.R_elder' (rM aa.out) (Kd.R_base an) hb);replace HB := aK (below_step (bM HB.out) hb);(try clear hb);(try clear hk);(try clear an)))
       go_roundg k2
       case measure => have := aC.out;have := aR.out;omega
       case rel => exact ⟨(az),(wrap64 (ac + 1)),(by first|rfl|(simp;done)|(simp [*];done)),H',⟨by have := aC.out;have := aR.out;omega⟩,⟨rM (Kd.R_mono aB.out (fun _ hk => trivial))⟩,⟨bM HB.out⟩⟩
      ·rw [if_neg c10] at H
       have ay := decide_eq_false c10
       clear c10
       obtain rfl := Option.some.inj H
       go_wp2
       go_ret
       exact ⟨_,by first|rfl|(simp [errW_none,errW_some] <;> rfl)|(simp [*,errW_none,errW_some] <;> rfl),rM aa.out,bM HB.out⟩

/-! ### r43_Users: function 15 -/
def r43_Users.l0 : Nat → List (S36) → List Int → List ByteArray → Int → Option (List Int)
|0,_,_,_,_ => none
|k + 1,x0,x5,x6,x7 => if x7 < (x6.length : Int) then (if 0 ≤ x7 then ((r43_at.f k x0 (rdOf ByteArray.empty x6 x7)).bind fun aa => (if aa ≥ 0 then (if 0 ≤ aa then (if aa < (x0.length : Int) then ((r05_Or.f k x5 ((rd_T36 x0 aa).f1)).bind fun ab => (r43_Users.l0 k x0 ab x6 (wrap64 (x7 + 1)))) else (none)) else (none)) else (r43_Users.l0 k x0 x5 x6 (wrap64 (x7 + 1))))) else (none)) else (some x5)
def r43_Users.f (k : Nat) (l0 : List (S36)) (a1 : ByteArray) : Option (List Int) := (some (([a1] : List ByteArray) : List ByteArray)).bind fun aa => ((r43_inside.f k l0 a1).bind fun ab => (if aa.length + ab.length < 8796093022208 then (r43_Users.l0 k l0 (([] : List Int)) (aa ++ ab) 0) else (none)))
theorem r43_Users.mono_l : ∀ k, (∀ y0 y1 y2 y3, LeO (r43_Users.l0 k y0 y1 y2 y3) (r43_Users.l0 (k + 1) y0 y1 y2 y3))
|0 => fun _ _ _ _ r h => by simp [r43_Users.l0] at h
|k + 1 => by
  have ih0 := r43_Users.mono_l k
  ·intro y0 y1 y2 y3
   unfold r43_Users.l0
   repeat' (with_reducible first|exact ih0 _ _ _ _|exact r05_Or.mono _ _ _|exact r43_at.mono _ _ _|exact LeO.refl _|exact LeO.none _|refine LeO.ite ?_ ?_|refine LeO.bind ?_ (fun _ => ?_))
theorem r43_Users.mono : ∀ a0 a1 k, LeO (r43_Users.f k a0 a1) (r43_Users.f (k + 1) a0 a1) := by
 intro a0 a1 k
 have ih0 := r43_Users.mono_l k
 unfold r43_Users.f
 repeat' (with_reducible first|exact ih0 _ _ _ _|exact r05_Or.mono _ _ _|exact r43_at.mono _ _ _|exact r43_inside.mono _ _ _|exact LeO.refl _|exact LeO.none _|refine LeO.ite ?_ ?_|refine LeO.bind ?_ (fun _ => ?_))
theorem r43_Users.calls (k : Nat) (A0 : Option Addr) (c0 : Nat) (l0 : List (S36)) (a1 : ByteArray) (r : List Int) (w : World) (bx : Kd.C k36 w A0 l0.length l0) (bz : l0.length ≤ c0) (h : r43_Users.f k l0 a1 = some r) :
  Calls Tryz.prog 15 #[.slice A0 l0.length c0,.string a1] w fun e w' => ∃ bB : Value,e = .returned (bB) ∧ Kd.R (Kd.int .i64) 3 w' w.heap.size (fun _ => True) bB r ∧ Below w.heap.size w w' := by
 have bc := aK bx
 have bg := aK bz
 clear bx bz
 have HB := aK (Below.refl w.heap.size w)
 unfold r43_Users.f at h
 have H := h
 clear h
 obtain ⟨aC,ah⟩ : ∃ y_ : List Int,y_ = (([] : List Int)) := ⟨_,rfl⟩
 replace H : ((some (([a1] : List ByteArray) : List ByteArray)).bind fun ai => ((r43_inside.f k l0 a1).bind fun ae => (if ai.length + ae.length < 8796093022208 then (r43_Users.l0 k l0 aC (ai ++ ae) 0) else (none)))) = some r := by first|(rw [ah];with_reducible exact H)|(have aA := (Option.bind_some _ _).symm.trans H;rw [ah];with_reducible exact aA)|(have aA := (Option.bind_some _ _).symm.trans H;with_reducible exact aA)|with_reducible exact H|(rw [ah];exact H)|exact H
 have aH := aK ah
 clear ah
 obtain ⟨ai,aj⟩ : ∃ y_ : List ByteArray,y_ = (([a1] : List ByteArray)) := ⟨_,rfl⟩
 replace H : ((r43_inside.f k l0 a1).bind fun ae => (if ai.length + ae.length < 8796093022208 then (r43_Users.l0 k l0 aC (ai ++ ae) 0) else (none))) = some r := by first|(rw [aj];with_reducible exact H)|(have aA := (Option.bind_some _ _).symm.trans H;rw [aj];with_reducible exact aA)|(have aA := (Option.bind_some _ _).symm.trans H;with_reducible exact aA)|with_reducible exact H|(rw [aj];exact H)|exact H
 have aI := aK aj
 clear aj
 replace H := Option.bind_eq_some_iff.mp H
 obtain ⟨ae,bC,H⟩ := H
 have A3 := aK bC
 clear bC
 by_cases c4 : ai.length + ae.length < 8796093022208
 ·rw [if_pos c4] at H
  have bh := aK c4
  clear c4
  obtain ⟨af,ak⟩ : ∃ y_ : List ByteArray,y_ = (ai ++ ae) := ⟨_,rfl⟩
  replace H : (r43_Users.l0 k l0 aC af 0) = some r := by first|(rw [ak];with_reducible exact H)|(have aA := (Option.bind_some _ _).symm.trans H;rw [ak];with_reducible exact aA)|(have aA := (Option.bind_some _ _).symm.trans H;with_reducible exact aA)|with_reducible exact H|(rw [ak];exact H)|exact H
  have aX := aK ak
  clear ak
  have H' := aK H
  clear H
  go_enter Tryz.func15,Tryz.ntmps15
  go_wp2_with (first|((with_reducible refine gate_dst (N := 9) rfl ?_);refine Kd.R_lit (Kd.int .i64) _ 3 ?hg (N := 9) ?hd (xs := ([] : List Int)) (inner := []) (ok := fun _ => True) (okp := fun _ => True) ?hr ?hp (fun _ hk => hk) trivial (Below.refl _ _) (Nat.le_refl _) (by simp) ?_;(case hd => rfl);(case hg => rfl);(case hr => first|(go_simp;done)|(go_simp;rfl));(case hp => exact (Reps.none _ _));intro bi w5 aY hb hg_ hnew_;clear hg_ hnew_;(first|rw [← aH.out] at aY|(simp only [Int.reduceToNat] at aY;rw [← aH.out] at aY));have ab := aK (Kd.R_lower aY (below_size (bM HB.out)));replace HB := aK (below_step (bM HB.out) hb);clear hb aY)|((with_reducible refine gate_dst (N := 11) rfl ?_);refine Kd.R_lit Kd.string _ 9 ?hg (N := 11) ?hd (xs := ([a1] : List ByteArray)) (inner := [.string a1]) (ok := fun _ => True) (okp := fun _ => True) ?hr ?hp (fun _ hk => hk) trivial (Below.refl _ _) (Nat.le_refl _) (by simp) ?_;(case hd => rfl);(case hg => rfl);(case hr => first|(go_simp;done)|(go_simp;rfl));(case hp => exact (Reps.one (show Kd.M Kd.string _ _ _ a1 [.string a1] from rfl) (Reps.none _ _)));intro aZ w7 a0 hb hg_ hnew_;clear hg_ hnew_;(first|rw [← aI.out] at a0|(simp only [Int.reduceToNat] at a0;rw [← aI.out] at a0));replace ab := aK (Kd.R_below (rM ab.out) hb);have al := aK (Kd.R_lower a0 (below_size (bM HB.out)));replace HB := aK (below_step (bM HB.out) hb);clear hb a0)|((with_reducible refine gate_callee (f := 39) rfl ?_);refine gL 14 Tryz.func39 #[.slice A0 l0.length c0,.string a1] ?_;(with_reducible refine (r43_inside.calls k _ _ l0 a1 ae _ ?ac ?ad A3.out).mono ?_);(case ac => exact cM (Kd.C_below bc.out HB.out));(case ad => exact bg.out);rintro e w9 ⟨bN,rfl,aU,hb⟩;refine ⟨_,rfl,?_⟩;have aJ := aK (Kd.V_lower (Kd.V_mono (ok' := fun k_ => some k_ ≠ (bi : Value).ownBlock ∧ some k_ ≠ (aZ : Value).ownBlock) aU (fun k_ hk_ => ⟨(Kd.fresh' (Kd.R_lt (rM ab.out)) k_ hk_),(Kd.fresh' (Kd.R_lt (rM al.out)) k_ hk_)⟩)) (below_size (bM HB.out)));replace ab := aK (Kd.R_below (rM ab.out) hb);replace al := aK (Kd.R_below (rM al.out) hb);replace HB := aK (below_step (bM HB.out) hb);(try clear hb);(try clear hk);(try clear aU);obtain ⟨bO,bP,bj⟩ := Kd.V_slice aJ.out;subst bj)|((with_reducible refine gate_builtin (b := .append) (xs := #[.tmp 11,.tmp 14]) rfl ?_);at_builtin;refine Kd.R_append_rows Kd.string (w0 := w) w.heap.size rfl (.tmp 11) (.tmp 14) 31 9 (.string ⟨#[]⟩) 16 rfl Tryz.underlying31 info9 rfl (by decide) (by omega) aZ ai ae _ _ _ (fun _ => True) (fun _ => False) rfl rfl ?aO ?aR (fun _ _ h => h) (fun _ h => h.elim) ?aF ?aB ?aS ?aL ?_;(case aR => exact cM (Kd.V_reads' aJ.out).2.2);(case aB => exact (bM HB.out));(case aF => exact (fun _ _ => trivial));(case aO => exact (rM al.out));(case aS => exact (below_size (bM HB.out)));(case aL => have := bh.out;omega);intro bk bY ho hb hg hat;rw [← aX.out] at ho;replace ab := aK (Kd.R_over' (rM ab.out) (Kd.R_typed (rM al.out)) (by decide) hg);replace HB := aK (hb);have a2 := aK (ho);clear ho hb hg hat))
  go_loopg [5,7] k (fun kq v5 v7 w' => ∃ (az : List Int) (aa : Int),v7 = .int .i64 aa ∧ Aside0 (r43_Users.l0 kq l0 az af aa = some r) ∧ Aside0 (kq ≤ k) ∧ Aside0 (Kd.R (Kd.int .i64) 3 w' w.heap.size (fun _ => True) v5 az) ∧ Aside0 (Kd.R Kd.string 9 w' w.heap.size (fun _ => True) bk af) ∧ Aside0 (Below w.heap.size w w'))
  case atStart => exact ⟨(aC),(0),(by first|rfl|(simp;done)|(simp [*];done)),H',⟨Nat.le_refl _⟩,⟨rM ab.out⟩,⟨rM a2.out⟩,⟨bM HB.out⟩⟩
  case round =>
   clear H'
   try clear p2
   try clear c4
   obtain ⟨az,aa,rfl,HA,bd,am,ag,HB⟩ := hrel
   cases gk with
  |zero => exact absurd HA.out (by simp [r43_Users.l0])
  |succ k1 =>
    have H := HA.out
    clear HA
    simp only [r43_Users.l0] at H
    by_cases aV : aa < (af.length : Int)
    ·rw [if_pos aV] at H
     have a3 := decide_eq_true aV
     clear aV
     obtain ⟨bD,H⟩ := iS H
     have bE := decide_eq_true bD
     clear bD
     replace H := Option.bind_eq_some_iff.mp H
     obtain ⟨an,a4,H⟩ := H
     have bF := aK a4
     clear a4
     by_cases aW : an ≥ 0
     ·rw [if_pos aW] at H
      have a5 := decide_eq_true aW
      clear aW
      obtain ⟨bH,H⟩ := iS H
      have bI := decide_eq_true bH
      clear bH
      obtain ⟨bJ,H⟩ := iS H
      have bK := decide_eq_true bJ
      clear bJ
      replace H := Option.bind_eq_some_iff.mp H
      obtain ⟨a6,a7,H⟩ := H
      have bQ := aK a7
      clear a7
      have H' := aK H
      clear H
      obtain ⟨bR,bS,bm⟩ := Kd.R_slice ag.out
      subst bm
      have ao : 0 ≤ (aa : Int) := dA
      have ap : aa < (af.length : Int) := dA
      obtain ⟨a8,aM,aD⟩ := Kd.at_string (Kd.R_reads' ag.out).2.2 aa ao ap
      cases aM
      replace ao := eq_true ao
      replace ap := eq_true ap
      go_wp2_with (first|((with_reducible refine gate_callee (f := 36) rfl ?_);refine gL 27 Tryz.func36 #[.slice A0 l0.length c0,.string (rdOf ByteArray.empty af aa)] ?_;(with_reducible refine (r43_at.calls k1 _ _ l0 (rdOf ByteArray.empty af aa) an _ ?ac ?ad bF.out).mono ?_);(case ac => exact cM (Kd.C_below bc.out HB.out));(case ad => exact bg.out);rintro e w' ⟨rfl,⟨nd,rfl⟩⟩;refine ⟨_,rfl,?_⟩;have aN : 0 ≤ (an : Int) := dA;have aP : an < (l0.length : Int) := dA;obtain ⟨bL,aQ,aT,bn,bo,bp,aq,ar,au,av,aw,ax,ay⟩ := at_T36 bc.out an aN aP;cases bp;replace aq := xM HB aq;replace ar := xM HB ar;replace au := xM HB au;have aE := aK aw;have aG := aK av;clear aw av;have be := aK ay;have bf := aK ax;clear ay ax;replace aN := eq_true aN;replace aP := eq_true aP;obtain ⟨bq,br,bs⟩ := Kd.R_slice am.out;subst bs)|((with_reducible refine gate_callee (f := 28) rfl ?_);refine gL 36 Tryz.func28 #[.slice bq az.length br,.slice aQ ((rd_T36 l0 an).f1).length aT] ?_;(with_reducible refine (r05_Or.calls k1 _ _ az _ _ ((rd_T36 l0 an).f1) a6 _ ?ac ?ad ?a9 ?ba bQ.out).mono ?_);(case ac => exact cM (Kd.R_reads' am.out).2.2);(case ad => exact (Kd.R_reads' am.out).2.1);(case a9 => exact Kd.C_below aE.out (bM HB.out));(case ba => exact aG.out);rintro e bZ ⟨bT,rfl,aU,hb⟩;refine ⟨_,rfl,?_⟩;replace ag := aK (Kd.R_below (rM ag.out) hb);have bb := aK (Kd.R_lower (Kd.R_new' aU (Kd.R_lt (rM am.out))) (below_size (bM HB.out)));replace am := aK (Kd.R_elder' (rM am.out) (Kd.R_base aU) hb);replace HB := aK (below_step (bM HB.out) hb);(try clear hb);(try clear hk);(try clear aU)))
      go_roundg k1
      case measure => have := bd.out;omega
      case rel => exact ⟨(a6),(wrap64 (aa + 1)),(by first|rfl|(simp;done)|(simp [*];done)),H',⟨by have := bd.out;omega⟩,⟨rM (Kd.R_mono bb.out (fun _ hk => trivial))⟩,⟨rM ag.out⟩,⟨bM HB.out⟩⟩
     ·rw [if_neg aW] at H
      have a5 := decide_eq_false aW
      clear aW
      have H' := aK H
      clear H
      obtain ⟨bU,bV,bu⟩ := Kd.R_slice ag.out
      subst bu
      have ao : 0 ≤ (aa : Int) := dA
      have ap : aa < (af.length : Int) := dA
      obtain ⟨a8,aM,aD⟩ := Kd.at_string (Kd.R_reads' ag.out).2.2 aa ao ap
      cases aM
      replace ao := eq_true ao
      replace ap := eq_true ap
      go_wp2_with (first|((with_reducible refine gate_callee (f := 36) rfl ?_);refine gL 27 Tryz.func36 #[.slice A0 l0.length c0,.string (rdOf ByteArray.empty af aa)] ?_;(with_reducible refine (r43_at.calls k1 _ _ l0 (rdOf ByteArray.empty af aa) an _ ?ac ?ad bF.out).mono ?_);(case ac => exact cM (Kd.C_below bc.out HB.out));(case ad => exact bg.out);rintro e w' ⟨rfl,⟨nd,rfl⟩⟩;refine ⟨_,rfl,?_⟩))
      go_roundg k1
      case measure => have := bd.out;omega
      case rel => exact ⟨(az),(wrap64 (aa + 1)),(by first|rfl|(simp;done)|(simp [*];done)),H',⟨by have := bd.out;omega⟩,⟨rM am.out⟩,⟨rM ag.out⟩,⟨bM HB.out⟩⟩
    ·rw [if_neg aV] at H
     have a3 := decide_eq_false aV
     clear aV
     obtain rfl := Option.some.inj H
     obtain ⟨bW,bX,bv⟩ := Kd.R_slice ag.out
     subst bv
     go_wp2
     go_ret
     exact ⟨_,by first|rfl|(simp [errW_none,errW_some] <;> rfl)|(simp [*,errW_none,errW_some] <;> rfl),rM am.out,bM HB.out⟩
 ·rw [if_neg c4] at H
  exact absurd H (by simp)

/-! ### r43_Of: function 18 -/
def r43_Of.l0 : Nat → List (S36) → Int → List ByteArray → Int → Option (List ByteArray)
|0,_,_,_,_ => none
|k + 1,x0,x1,x5,x6 => if x6 < (x0.length : Int) then (if 0 ≤ x6 then ((r43_Users.f k x0 ((rd_T36 x0 x6).f0)).bind fun aa => ((r05_In.f k aa x1).bind fun ab => (if ab = true then ((r26_PutText.f k x5 ((rd_T36 x0 x6).f0)).bind fun ac => (r43_Of.l0 k x0 x1 ac (wrap64 (x6 + 1)))) else (r43_Of.l0 k x0 x1 x5 (wrap64 (x6 + 1)))))) else (none)) else (some x5)
def r43_Of.f (k : Nat) (l0 : List (S36)) (a1 : Int) : Option (List ByteArray) := r43_Of.l0 k l0 a1 (([] : List ByteArray)) 0
theorem r43_Of.mono_l : ∀ k, (∀ y0 y1 y2 y3, LeO (r43_Of.l0 k y0 y1 y2 y3) (r43_Of.l0 (k + 1) y0 y1 y2 y3))
|0 => fun _ _ _ _ r h => by simp [r43_Of.l0] at h
|k + 1 => by
  have ih0 := r43_Of.mono_l k
  ·intro y0 y1 y2 y3
   unfold r43_Of.l0
   repeat' (with_reducible first|exact ih0 _ _ _ _|exact r05_In.mono _ _ _|exact r26_PutText.mono _ _ _|exact r43_Users.mono _ _ _|exact LeO.refl _|exact LeO.none _|refine LeO.ite ?_ ?_|refine LeO.bind ?_ (fun _ => ?_))
theorem r43_Of.mono : ∀ a0 a1 k, LeO (r43_Of.f k a0 a1) (r43_Of.f (k + 1) a0 a1) := by
 intro a0 a1 k
 have ih0 := r43_Of.mono_l k
 unfold r43_Of.f
 repeat' (with_reducible first|exact ih0 _ _ _ _|exact r05_In.mono _ _ _|exact r26_PutText.mono _ _ _|exact r43_Users.mono _ _ _|exact LeO.refl _|exact LeO.none _|refine LeO.ite ?_ ?_|refine LeO.bind ?_ (fun _ => ?_))
theorem r43_Of.calls (k : Nat) (A0 : Option Addr) (c0 : Nat) (l0 : List (S36)) (a1 : Int) (r : List ByteArray) (w : World) (bm : Kd.C k36 w A0 l0.length l0) (bn : l0.length ≤ c0) (h : r43_Of.f k l0 a1 = some r) :
  Calls Tryz.prog 18 #[.slice A0 l0.length c0,.int .i64 a1] w fun e w' => ∃ bo : Value,e = .returned (bo) ∧ Kd.R Kd.string 9 w' w.heap.size (fun _ => True) bo r ∧ Below w.heap.size w w' := by
 have aP := aK bm
 have bp := aK bn
 clear bm bn
 have HB := aK (Below.refl w.heap.size w)
 have H : (r43_Of.l0 k l0 a1 (([] : List ByteArray)) 0) = some r := h
 clear h
 obtain ⟨aQ,am⟩ : ∃ y_ : List ByteArray,y_ = (([] : List ByteArray)) := ⟨_,rfl⟩
 replace H : (r43_Of.l0 k l0 a1 aQ 0) = some r := by first|(rw [am];with_reducible exact H)|(have a3 := (Option.bind_some _ _).symm.trans H;rw [am];with_reducible exact a3)|(have a3 := (Option.bind_some _ _).symm.trans H;with_reducible exact a3)|with_reducible exact H|(rw [am];exact H)|exact H
 have aG := aK am
 clear am
 have H' := aK H
 clear H
 go_enter Tryz.func18,Tryz.ntmps18
 go_wp2_with (first|((with_reducible refine gate_dst (N := 7) rfl ?_);refine Kd.R_lit Kd.string _ 9 ?hg (N := 7) ?hd (xs := ([] : List ByteArray)) (inner := []) (ok := fun _ => True) (okp := fun _ => True) ?hr ?hp (fun _ hk => hk) trivial (Below.refl _ _) (Nat.le_refl _) (by simp) ?_;(case hd => rfl);(case hg => rfl);(case hr => first|(go_simp;done)|(go_simp;rfl));(case hp => exact (Reps.none _ _));intro bs w3 aR hb hg_ hnew_;clear hg_ hnew_;(first|rw [← aG.out] at aR|(simp only [Int.reduceToNat] at aR;rw [← aG.out] at aR));have aS := aK (Kd.R_lower aR (below_size (bM HB.out)));replace HB := aK (below_step (bM HB.out) hb);clear hb aR))
 go_loopg [5,6] k (fun kq v5 v6 w' => ∃ (az : List ByteArray) (aa : Int),v6 = .int .i64 aa ∧ Aside0 (r43_Of.l0 kq l0 a1 az aa = some r) ∧ Aside0 (kq ≤ k) ∧ Aside0 (Kd.R Kd.string 9 w' w.heap.size (fun _ => True) v5 az) ∧ Aside0 (Below w.heap.size w w'))
 case atStart => exact ⟨(aQ),(0),(by first|rfl|(simp;done)|(simp [*];done)),H',⟨Nat.le_refl _⟩,⟨rM aS.out⟩,⟨bM HB.out⟩⟩
 case round =>
  clear H'
  try clear p2
  obtain ⟨az,aa,rfl,HA,aX,al,HB⟩ := hrel
  cases gk with
 |zero => exact absurd HA.out (by simp [r43_Of.l0])
 |succ k1 =>
   have H := HA.out
   clear HA
   simp only [r43_Of.l0] at H
   by_cases c5 : aa < (l0.length : Int)
   ·rw [if_pos c5] at H
    have a4 := decide_eq_true c5
    clear c5
    obtain ⟨c6,H⟩ := iS H
    have bu := decide_eq_true c6
    clear c6
    replace H := Option.bind_eq_some_iff.mp H
    obtain ⟨aA,bq,H⟩ := H
    have A7 := aK bq
    clear bq
    replace H := Option.bind_eq_some_iff.mp H
    obtain ⟨a5,br,H⟩ := H
    have A8 := aK br
    clear br
    by_cases c9 : a5 = true
    ·subst c9
     rw [if_pos rfl] at H
     replace H := Option.bind_eq_some_iff.mp H
     obtain ⟨aT,aU,H⟩ := H
     have bv := aK aU
     clear aU
     have H' := aK H
     clear H
     have an : 0 ≤ (aa : Int) := dA
     have ao : aa < (l0.length : Int) := dA
     obtain ⟨ap,aH,aI,aJ,aL,aM,ab,ac,ad,ae,af,ag,ah⟩ := at_T36 aP.out aa an ao
     cases aM
     replace ab := xM HB ab
     replace ac := xM HB ac
     replace ad := xM HB ad
     have aB := aK af
     have aC := aK ae
     clear af ae
     have aD := aK ah
     have aE := aK ag
     clear ah ag
     replace an := eq_true an
     replace ao := eq_true ao
     go_wp2_with (first|((with_reducible refine gate_callee (f := 15) rfl ?_);refine gL 20 Tryz.func15 #[.slice (some ap) l0.length c0,.string ((rd_T36 l0 aa).f0)] ?_;(with_reducible refine (r43_Users.calls k1 _ _ l0 ((rd_T36 l0 aa).f0) aA _ ?ai ?aj A7.out).mono ?_);(case ai => exact cM (Kd.C_below aP.out HB.out));(case aj => exact bp.out);rintro e bz ⟨a6,rfl,aF,hb⟩;refine ⟨_,rfl,?_⟩;replace al := aK (Kd.R_below (rM al.out) hb);have ak := aK (Kd.R_lower aF (below_size (bM HB.out)));replace HB := aK (below_step (bM HB.out) hb);(try clear hb);(try clear hk);(try clear aF);obtain ⟨a7,a8,a9⟩ := Kd.R_slice ak.out;subst a9)|((with_reducible refine gate_callee (f := 29) rfl ?_);refine gL 22 Tryz.func29 #[.slice a7 aA.length a8,.int .i64 a1] ?_;(with_reducible refine (r05_In.calls k1 _ _ aA a1 true _ ?ai ?aj A8.out).mono ?_);(case ai => exact cM (Kd.R_reads' ak.out).2.2);(case aj => exact (Kd.R_reads' ak.out).2.1);rintro e w' ⟨rfl,⟨nd,rfl⟩⟩;refine ⟨_,rfl,?_⟩;have aN : 0 ≤ (aa : Int) := dA;have aO : aa < (l0.length : Int) := dA;obtain ⟨aV,ba,bb,bc,bd,be,aq,ar,au,av,aw,ax,ay⟩ := at_T36 aP.out aa aN aO;obtain rfl : ap = aV := (by injection be);replace aq := xM HB aq;replace ar := xM HB ar;replace au := xM HB au;have aY := aK aw;have aZ := aK av;clear aw av;have a0 := aK ay;have a2 := aK ax;clear ay ax;replace aN := eq_true aN;replace aO := eq_true aO;obtain ⟨bf,bg,bh⟩ := Kd.R_slice al.out;subst bh)|((with_reducible refine gate_callee (f := 46) rfl ?_);refine gL 29 Tryz.func46 #[.slice bf az.length bg,.string ((rd_T36 l0 aa).f0)] ?_;(with_reducible refine (r26_PutText.calls k1 _ _ az ((rd_T36 l0 aa).f0) aT _ ?ai ?aj bv.out).mono ?_);(case ai => exact cM (Kd.R_reads' al.out).2.2);(case aj => exact (Kd.R_reads' al.out).2.1);rintro e bB ⟨bx,rfl,aF,hb⟩;refine ⟨_,rfl,?_⟩;replace ak := aK (Kd.R_below (rM ak.out) hb);have aW := aK (Kd.R_lower (Kd.R_new' aF (Kd.R_lt (rM al.out))) (below_size (bM HB.out)));replace al := aK (Kd.R_elder' (rM al.out) (Kd.R_base aF) hb);replace HB := aK (below_step (bM HB.out) hb);(try clear hb);(try clear hk);(try clear aF)))
     go_roundg k1
     case measure => have := aX.out;omega
     case rel => exact ⟨(aT),(wrap64 (aa + 1)),(by first|rfl|(simp;done)|(simp [*];done)),H',⟨by have := aX.out;omega⟩,⟨rM (Kd.R_mono aW.out (fun _ hk => trivial))⟩,⟨bM HB.out⟩⟩
    ·replace c9 := Bool.eq_false_iff.mpr c9
     subst c9
     rw [if_neg (show ¬ (false = true) by decide)] at H
     have H' := aK H
     clear H
     have an : 0 ≤ (aa : Int) := dA
     have ao : aa < (l0.length : Int) := dA
     obtain ⟨ap,aH,aI,aJ,aL,aM,ab,ac,ad,ae,af,ag,ah⟩ := at_T36 aP.out aa an ao
     cases aM
     replace ab := xM HB ab
     replace ac := xM HB ac
     replace ad := xM HB ad
     have aB := aK af
     have aC := aK ae
     clear af ae
     have aD := aK ah
     have aE := aK ag
     clear ah ag
     replace an := eq_true an
     replace ao := eq_true ao
     go_wp2_with (first|((with_reducible refine gate_callee (f := 15) rfl ?_);refine gL 20 Tryz.func15 #[.slice (some ap) l0.length c0,.string ((rd_T36 l0 aa).f0)] ?_;(with_reducible refine (r43_Users.calls k1 _ _ l0 ((rd_T36 l0 aa).f0) aA _ ?ai ?aj A7.out).mono ?_);(case ai => exact cM (Kd.C_below aP.out HB.out));(case aj => exact bp.out);rintro e bC ⟨a6,rfl,aF,hb⟩;refine ⟨_,rfl,?_⟩;replace al := aK (Kd.R_below (rM al.out) hb);have ak := aK (Kd.R_lower aF (below_size (bM HB.out)));replace HB := aK (below_step (bM HB.out) hb);(try clear hb);(try clear hk);(try clear aF);obtain ⟨bi,bj,bk⟩ := Kd.R_slice ak.out;subst bk)|((with_reducible refine gate_callee (f := 29) rfl ?_);refine gL 22 Tryz.func29 #[.slice bi aA.length bj,.int .i64 a1] ?_;(with_reducible refine (r05_In.calls k1 _ _ aA a1 false _ ?ai ?aj A8.out).mono ?_);(case ai => exact cM (Kd.R_reads' ak.out).2.2);(case aj => exact (Kd.R_reads' ak.out).2.1);rintro e w' ⟨rfl,⟨nd,rfl⟩⟩;refine ⟨_,rfl,?_⟩))
     go_roundg k1
     case measure => have := aX.out;omega
     case rel => exact ⟨(az),(wrap64 (aa + 1)),(by first|rfl|(simp;done)|(simp [*];done)),H',⟨by have := aX.out;omega⟩,⟨rM al.out⟩,⟨bM HB.out⟩⟩
   ·rw [if_neg c5] at H
    have a4 := decide_eq_false c5
    clear c5
    obtain rfl := Option.some.inj H
    go_wp2
    go_ret
    exact ⟨_,by first|rfl|(simp [errW_none,errW_some] <;> rfl)|(simp [*,errW_none,errW_some] <;> rfl),rM al.out,bM HB.out⟩

/-! ### r43_In: function 20 -/
def r43_In.f (k : Nat) (l0 : List (S36)) (a1 : ByteArray) (a2 : Int) : Option (Bool) := (r43_Users.f k l0 a1).bind fun aa => ((r05_In.f k aa a2).bind fun ab => (some ab))
theorem r43_In.mono : ∀ a0 a1 a2 k, LeO (r43_In.f k a0 a1 a2) (r43_In.f (k + 1) a0 a1 a2) := by
 intro a0 a1 a2 k
 unfold r43_In.f
 repeat' (with_reducible first|exact r05_In.mono _ _ _|exact r43_Users.mono _ _ _|exact LeO.refl _|exact LeO.none _|refine LeO.ite ?_ ?_|refine LeO.bind ?_ (fun _ => ?_))
theorem r43_In.calls (k : Nat) (A0 : Option Addr) (c0 : Nat) (l0 : List (S36)) (a1 : ByteArray) (a2 : Int) (r : Bool) (w : World) (af : Kd.C k36 w A0 l0.length l0) (ag : l0.length ≤ c0) (h : r43_In.f k l0 a1 a2 = some r) :
  Calls Tryz.prog 20 #[.slice A0 l0.length c0,.string a1,.int .i64 a2] w fun e w' => e = .returned (.bool r) ∧ Below w.heap.size w w' := by
 have ak := aK af
 have al := aK ag
 clear af ag
 have HB := aK (Below.refl w.heap.size w)
 have H : ((r43_Users.f k l0 a1).bind fun aa => ((r05_In.f k aa a2).bind fun ae => (some ae))) = some r := h
 clear h
 replace H := Option.bind_eq_some_iff.mp H
 obtain ⟨aa,ah,H⟩ := H
 have A4 := aK ah
 clear ah
 replace H := Option.bind_eq_some_iff.mp H
 obtain ⟨ae,ai,H⟩ := H
 have A5 := aK ai
 clear ai
 obtain rfl := Option.some.inj H
 go_enter Tryz.func20,Tryz.ntmps20
 go_wp2_with (first|((with_reducible refine gate_callee (f := 15) rfl ?_);refine gL 9 Tryz.func15 #[.slice A0 l0.length c0,.string a1] ?_;(with_reducible refine (r43_Users.calls k _ _ l0 a1 aa _ ?ab ?ac A4.out).mono ?_);(case ab => exact cM ak.out);(case ac => exact al.out);rintro e w6 ⟨am,rfl,aj,hb⟩;refine ⟨_,rfl,?_⟩;have ad := aK (Kd.R_lower aj (below_size (bM HB.out)));replace HB := aK (below_step (bM HB.out) hb);(try clear hb);(try clear aj);obtain ⟨an,ao,ap⟩ := Kd.R_slice ad.out;subst ap)|((with_reducible refine gate_callee (f := 29) rfl ?_);refine gL 11 Tryz.func29 #[.slice an aa.length ao,.int .i64 a2] ?_;(with_reducible refine (r05_In.calls k _ _ aa a2 ae _ ?ab ?ac A5.out).mono ?_);(case ab => exact cM (Kd.R_reads' ad.out).2.2);(case ac => exact (Kd.R_reads' ad.out).2.1);rintro e w' ⟨rfl,⟨nd,rfl⟩⟩;refine ⟨_,rfl,?_⟩))
 go_ret
 exact ⟨by first|rfl|(simp [errW_none,errW_some] <;> rfl)|(simp [*,errW_none,errW_some] <;> rfl),bM HB.out⟩
end Go.Proofs.YtobdkgoapcbipaaGreatDoor.J
