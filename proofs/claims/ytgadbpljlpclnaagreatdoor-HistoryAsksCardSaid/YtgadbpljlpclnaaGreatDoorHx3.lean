import Derived.Test.YtgadbpljlpclnaaGreatDoorHx0
namespace Go.Proofs.YtgadbpljlpclnaaGreatDoor.H
open Go.RowKit Go.Proofs.YtgadbpljlpclnaaGreatDoorW.PrintWords Go.Proofs.YtgadbpljlpclnaaGreatDoorW.PrintLast Go.Proofs.YtgadbpljlpclnaaGreatDoorW.PrintMore
set_option maxHeartbeats 4000000
set_option maxRecDepth 100000
attribute [local go_sem] max2_int min2_int max_two min_two max_three min_three max_four min_four
set_option linter.unusedVariables false
set_option linter.unusedSimpArgs false

/-! ### r25_Set: function 64 -/
mutual
def r25_Set.l0 : Nat → List (S55) → ByteArray → Int → List (S55) → Bool → Int → Option ((List (S55)))
|0,_,_,_,_,_,_ => none
|k + 1,x0,x1,x2,x7,x8,x9 => if x9 < (x0.length : Int) then (if x8 = true then (r25_Set.j1 k x0 x1 x2 x7 x8 x9 false) else (if 0 ≤ x9 then (r25_Set.j1 k x0 x1 x2 x7 x8 x9 (!(Op.bytesLess (((rd_T55 x0 x9).f0).toList) x1.toList))) else (none))) else (if x8 = true then (some x7) else (if x7.length < 5864062014805 then (some (x7 ++ [(⟨x1,x2⟩ : S55)])) else (none)))
def r25_Set.j1 : Nat → List (S55) → ByteArray → Int → List (S55) → Bool → Int → Bool → Option ((List (S55)))
|0,_,_,_,_,_,_,_ => none
|k + 1,x0,x1,x2,x7,x8,x9,ab => if ab = true then (if x7.length < 5864062014805 then ((some (x7 ++ [(⟨x1,x2⟩ : S55)] : List (S55))).bind fun aa => (if 0 ≤ x9 then (if x9 < (x0.length : Int) then (if ((rd_T55 x0 x9).f0).toList = x1.toList then (r25_Set.l0 k x0 x1 x2 aa true (wrap64 (x9 + 1))) else (if aa.length < 5864062014805 then (r25_Set.l0 k x0 x1 x2 (aa ++ [(⟨(rd_T55 x0 x9).f0,(rd_T55 x0 x9).f1⟩ : S55)]) true (wrap64 (x9 + 1))) else (none))) else (none)) else (none))) else (none)) else (if 0 ≤ x9 then (if x9 < (x0.length : Int) then (if ((rd_T55 x0 x9).f0).toList = x1.toList then (r25_Set.l0 k x0 x1 x2 x7 x8 (wrap64 (x9 + 1))) else (if x7.length < 5864062014805 then (r25_Set.l0 k x0 x1 x2 (x7 ++ [(⟨(rd_T55 x0 x9).f0,(rd_T55 x0 x9).f1⟩ : S55)]) x8 (wrap64 (x9 + 1))) else (none))) else (none)) else (none))
end
def r25_Set.f (k : Nat) (l0 : List (S55)) (a1 : ByteArray) (a2 : Int) : Option ((List (S55))) := r25_Set.l0 k l0 a1 a2 ([] : List (S55)) (a2 == 0) 0
theorem r25_Set.mono_l : ∀ k, (∀ y0 y1 y2 y3 y4 y5, LeO (r25_Set.l0 k y0 y1 y2 y3 y4 y5) (r25_Set.l0 (k + 1) y0 y1 y2 y3 y4 y5)) ∧ (∀ y0 y1 y2 y3 y4 y5 y6, LeO (r25_Set.j1 k y0 y1 y2 y3 y4 y5 y6) (r25_Set.j1 (k + 1) y0 y1 y2 y3 y4 y5 y6))
|0 => ⟨fun _ _ _ _ _ _ r h => by simp [r25_Set.l0] at h,fun _ _ _ _ _ _ _ r h => by simp [r25_Set.j1] at h⟩
|k + 1 => by
  obtain ⟨ih0,ih1⟩ := r25_Set.mono_l k
  refine ⟨?_,?_⟩
  ·intro y0 y1 y2 y3 y4 y5
   unfold r25_Set.l0
   repeat' (with_reducible first|exact ih1 _ _ _ _ _ _ _|exact LeO.refl _|exact LeO.none _|refine LeO.ite ?_ ?_|refine LeO.bind ?_ (fun _ => ?_))
  ·intro y0 y1 y2 y3 y4 y5 y6
   unfold r25_Set.j1
   repeat' (with_reducible first|exact ih0 _ _ _ _ _ _|exact LeO.refl _|exact LeO.none _|refine LeO.ite ?_ ?_|refine LeO.bind ?_ (fun _ => ?_))
theorem r25_Set.mono : ∀ a0 a1 a2 k, LeO (r25_Set.f k a0 a1 a2) (r25_Set.f (k + 1) a0 a1 a2) := by
 intro a0 a1 a2 k
 obtain ⟨ih0,ih1⟩ := r25_Set.mono_l k
 unfold r25_Set.f
 repeat' (with_reducible first|exact ih0 _ _ _ _ _ _|exact ih1 _ _ _ _ _ _ _|exact LeO.refl _|exact LeO.none _|refine LeO.ite ?_ ?_|refine LeO.bind ?_ (fun _ => ?_))
theorem r25_Set.calls (k : Nat) (A0 : Option Addr) (c0 : Nat) (l0 : List (S55)) (a1 : ByteArray) (a2 : Int) (r : List (S55)) (w : World) (bv : Kd.C k55 w A0 l0.length l0) (bx : l0.length ≤ c0) (h : r25_Set.f k l0 a1 a2 = some r) :
  Calls Tryz.prog 64 #[.slice A0 l0.length c0,.string a1,.int .i64 a2] w fun e w' => ∃ bz : Value,e = .returned (bz) ∧ Kd.R k55 55 w' w.heap.size (fun _ => True) bz r ∧ Below w.heap.size w w' := by
 have bN := Tryz.underlying55
 have aN := aK bv
 have bS := aK bx
 clear bv bx
 have HB := aK (Below.refl w.heap.size w)
 have H : (r25_Set.l0 k l0 a1 a2 ([] : List (S55)) (a2 == 0) 0) = some r := h
 clear h
 have H' := aK H
 clear H
 go_enter Tryz.func64,Tryz.ntmps64
 go_wp2
 go_loopg [7,8,9] k (fun kq v7 v8 v9 w' => ∃ (ab : List (S55)) (ag : Bool) (aa : Int),v8 = .bool ag ∧ v9 = .int .i64 aa ∧ Aside0 (r25_Set.l0 kq l0 a1 a2 ab ag aa = some r) ∧ Aside0 (kq ≤ k) ∧ Aside0 (Kd.R k55 55 w' w.heap.size (fun _ => True) v7 ab) ∧ Aside0 (Below w.heap.size w w'))
 case atStart => exact ⟨(([] : List (S55))),((a2 == 0)),(0),(by first|rfl|(simp;done)|(simp [*];done)),(by first|rfl|(simp;done)|(simp [*];done)),H',⟨Nat.le_refl _⟩,⟨by first|exact Kd.R_nil _ _ _ _ _|exact Kd.N_nil _ _ _ _ _|exact Kd.V_nil _ _ _ _ _|exact Kd.Q_nil _ _ _ _ _|exact Kd.S_nil _ _ _ _ _⟩,⟨bM HB.out⟩⟩
 case round =>
  clear H'
  try clear p2
  obtain ⟨ab,ag,aa,rfl,rfl,HA,aD,ah,HB⟩ := hrel
  cases gk with
 |zero => exact absurd HA.out (by simp [r25_Set.l0])
 |succ k1 =>
   have H := HA.out
   clear HA
   simp only [r25_Set.l0] at H
   by_cases c4 : aa < (l0.length : Int)
   ·rw [if_pos c4] at H
    have aZ := decide_eq_true c4
    clear c4
    have bp := aK H
    clear H
    go_upto_region 6 with (fail)
    go_cut [28] (fun bO wc => ∃ (kq : Nat) (av : Bool),bO = .bool av ∧ Aside0 (r25_Set.j1 kq l0 a1 a2 ab ag aa av = some r) ∧ Aside0 (kq ≤ k1) ∧ Aside0 (Kd.R k55 55 wc w.heap.size (fun _ => True) u7 ab) ∧ Aside0 (Below w.heap.size w wc))
    case first =>
     have H := bp.out
     clear bp
     by_cases c6 : ag = true
     ·subst c6
      rw [if_pos rfl] at H
      have H' := aK H
      clear H
      go_wp2
      go_meet
      case rel => exact ⟨_,(false),(by first|rfl|(simp;done)|(simp [*];done)),H',⟨by have := aD.out;first|omega|exact Nat.le_refl _⟩,⟨rM ah.out⟩,⟨bM HB.out⟩⟩
     ·replace c6 := Bool.eq_false_iff.mpr c6
      subst c6
      rw [if_neg (show ¬ (false = true) by decide)] at H
      obtain ⟨c7,H⟩ := iS H
      have a0 := decide_eq_true c7
      clear c7
      (first|rw [a0]|(simp only [i64_w,i32_w];rw [a0])|rw [c7b1]|skip)
      have H' := aK H
      clear H
      have aE : 0 ≤ (aa : Int) := dA
      have aG : aa < (l0.length : Int) := dA
      obtain ⟨bB,bq,ai,aj⟩ := at_T55 aN.out aa aE aG
      cases bq
      replace ai := xM HB ai
      replace aj := xM HB aj
      replace aE := eq_true aE
      replace aG := eq_true aG
      go_wp2
      go_meet
      case rel => exact ⟨_,(!(Op.bytesLess (((rd_T55 l0 aa).f0).toList) a1.toList)),(by first|rfl|(simp;done)|(simp [*];done)),H',⟨by have := aD.out;first|omega|exact Nat.le_refl _⟩,⟨rM ah.out⟩,⟨bM HB.out⟩⟩
    case rest =>
     clear bp
     try clear p1
     try clear q1
     try clear hx1
     try clear p2
     try clear c4
     try clear aZ
     try clear ai
     try clear aj
     try clear aE
     try clear p2
     try clear aG
     obtain ⟨kq,av,rfl,HA,aH,ah,HB⟩ := hcut
     cases kq with
    |zero => exact absurd HA.out (by simp [r25_Set.j1])
    |succ kj4 =>
      have H := HA.out
      clear HA
      simp only [r25_Set.j1] at H
      by_cases c8 : av = true
      ·subst c8
       rw [if_pos rfl] at H
       obtain ⟨c9,H⟩ := iS H
       have a3 := aK c9
       clear c9
       obtain ⟨aA,ak⟩ : ∃ y_ : List (S55),y_ = (ab ++ [(⟨a1,a2⟩ : S55)]) := ⟨_,rfl⟩
       replace H : (if 0 ≤ aa then (if aa < (l0.length : Int) then (if ((rd_T55 l0 aa).f0).toList = a1.toList then (r25_Set.l0 kj4 l0 a1 a2 aA true (wrap64 (aa + 1))) else (if aA.length < 5864062014805 then (r25_Set.l0 kj4 l0 a1 a2 (aA ++ [(⟨(rd_T55 l0 aa).f0,(rd_T55 l0 aa).f1⟩ : S55)]) true (wrap64 (aa + 1))) else (none))) else (none)) else (none)) = some r := by first|(rw [ak];with_reducible exact H)|(have ao := (Option.bind_some _ _).symm.trans H;rw [ak];with_reducible exact ao)|(have ao := (Option.bind_some _ _).symm.trans H;with_reducible exact ao)|with_reducible exact H|(rw [ak];exact H)|exact H
       have aI := aK ak
       clear ak
       obtain ⟨c10,H⟩ := iS H
       have bC := decide_eq_true c10
       clear c10
       obtain ⟨bD,H⟩ := iS H
       have bE := decide_eq_true bD
       clear bD
       by_cases aQ : ((rd_T55 l0 aa).f0).toList = a1.toList
       ·rw [if_pos aQ] at H
        have a4 := beq_iff_eq.mpr aQ
        have a5 := bne_eq_false_iff_eq.mpr aQ
        clear aQ
        have H' := aK H
        clear H
        go_wp2_with (first|((with_reducible refine gate_builtin (b := .append) (xs := #[.tmp 29,.tmp 33]) rfl ?_);at_builtin;refine Kd.R_append k55 (w0 := w) w.heap.size rfl (.tmp 29) (.tmp 33) 35 55 (.agg #[(.string ⟨#[]⟩),(.int .i64 0)]) 24 rfl Tryz.underlying35 info55 rfl (by decide) (by omega) u7 ab (⟨a1,a2⟩ : S55) [.string a1,.int .i64 a2] (fun _ => True) (fun _ => False) rfl rfl ?aP (fun _ hk => hk.elim) ?aF ?aO ?aB ?aS ?aL ?_;(case aP => exact k55_mkM _ _ _ (⟨a1,a2⟩ : S55));(case aB => exact (bM HB.out));(case aF => exact (fun _ _ => trivial));(case aO => exact (rM ah.out));(case aS => exact (below_size (bM HB.out)));(case aL => have := a3.out;omega);intro a6 bT ho hb hg hat;rw [← aI.out] at ho;replace HB := aK (hb);have aC := aK (ho);clear ho hb hg hat;have ap : 0 ≤ (aa : Int) := dA;have aq : aa < (l0.length : Int) := dA;obtain ⟨aJ,aR,ac,ad⟩ := at_T55 aN.out aa ap aq;cases aR;replace ac := xM HB ac;replace ad := xM HB ad;replace ap := eq_true ap;replace aq := eq_true aq))
        go_roundg kj4
        case measure => have := aD.out;have := aH.out;omega
        case rel => exact ⟨(aA),(true),(wrap64 (aa + 1)),(by first|rfl|(simp;done)|(simp [*];done)),(by first|rfl|(simp;done)|(simp [*];done)),H',⟨by have := aD.out;have := aH.out;omega⟩,⟨rM aC.out⟩,⟨bM HB.out⟩⟩
       ·rw [if_neg aQ] at H
        have a4 := beq_eq_false_iff_ne.mpr aQ
        have a5 := bne_iff_ne.mpr aQ
        obtain ⟨bF,H⟩ := iS H
        have a7 := aK bF
        clear bF
        obtain ⟨a8,al⟩ : ∃ y_ : List (S55),y_ = (aA ++ [(⟨(rd_T55 l0 aa).f0,(rd_T55 l0 aa).f1⟩ : S55)]) := ⟨_,rfl⟩
        replace H : (r25_Set.l0 kj4 l0 a1 a2 a8 true (wrap64 (aa + 1))) = some r := by first|(rw [al];with_reducible exact H)|(have ao := (Option.bind_some _ _).symm.trans H;rw [al];with_reducible exact ao)|(have ao := (Option.bind_some _ _).symm.trans H;with_reducible exact ao)|with_reducible exact H|(rw [al];exact H)|exact H
        have a9 := aK al
        clear al
        have H' := aK H
        clear H
        go_wp2_with (first|((with_reducible refine gate_builtin (b := .append) (xs := #[.tmp 29,.tmp 33]) rfl ?_);at_builtin;refine Kd.R_append k55 (w0 := w) w.heap.size rfl (.tmp 29) (.tmp 33) 35 55 (.agg #[(.string ⟨#[]⟩),(.int .i64 0)]) 24 rfl Tryz.underlying35 info55 rfl (by decide) (by omega) u7 ab (⟨a1,a2⟩ : S55) [.string a1,.int .i64 a2] (fun _ => True) (fun _ => False) rfl rfl ?aP (fun _ hk => hk.elim) ?aF ?aO ?aB ?aS ?aL ?_;(case aP => exact k55_mkM _ _ _ (⟨a1,a2⟩ : S55));(case aB => exact (bM HB.out));(case aF => exact (fun _ _ => trivial));(case aO => exact (rM ah.out));(case aS => exact (below_size (bM HB.out)));(case aL => have := a3.out;omega);intro a6 bU ho hb hg hat;rw [← aI.out] at ho;replace HB := aK (hb);have aC := aK (ho);clear ho hb hg hat;have ap : 0 ≤ (aa : Int) := dA;have aq : aa < (l0.length : Int) := dA;obtain ⟨aJ,aR,ac,ad⟩ := at_T55 aN.out aa ap aq;cases aR;replace ac := xM HB ac;replace ad := xM HB ad;replace ap := eq_true ap;replace aq := eq_true aq;have aT : 0 ≤ (aa : Int) := dA;have aU : aa < (l0.length : Int) := dA;obtain ⟨ba,br,aw,ax⟩ := at_T55 aN.out aa aT aU;obtain rfl : aJ = ba := (by injection br);replace aw := xM HB aw;replace ax := xM HB ax;replace aT := eq_true aT;replace aU := eq_true aU)|((with_reducible refine gate_builtin (b := .append) (xs := #[.tmp 42,.tmp 47]) rfl ?_);at_builtin;refine Kd.R_append k55 (w0 := w) w.heap.size rfl (.tmp 42) (.tmp 47) 35 55 (.agg #[(.string ⟨#[]⟩),(.int .i64 0)]) 24 rfl Tryz.underlying35 info55 rfl (by decide) (by omega) a6 aA (⟨(rd_T55 l0 aa).f0,(rd_T55 l0 aa).f1⟩ : S55) [.string ((rd_T55 l0 aa).f0),.int .i64 ((rd_T55 l0 aa).f1)] (fun _ => True) (fun _ => False) rfl rfl ?aP (fun _ hk => hk.elim) ?aF ?aO ?aB ?aS ?aL ?_;(case aP => exact k55_mkM _ _ _ (⟨(rd_T55 l0 aa).f0,(rd_T55 l0 aa).f1⟩ : S55));(case aB => exact (bM HB.out));(case aF => exact (fun _ _ => trivial));(case aO => exact (rM aC.out));(case aS => exact (below_size (bM HB.out)));(case aL => have := a7.out;omega);intro bP bV ho hb hg hat;rw [← a9.out] at ho;replace HB := aK (hb);have bb := aK (ho);clear ho hb hg hat))
        go_roundg kj4
        case measure => have := aD.out;have := aH.out;omega
        case rel => exact ⟨(a8),(true),(wrap64 (aa + 1)),(by first|rfl|(simp;done)|(simp [*];done)),(by first|rfl|(simp;done)|(simp [*];done)),H',⟨by have := aD.out;have := aH.out;omega⟩,⟨rM bb.out⟩,⟨bM HB.out⟩⟩
      ·replace c8 := Bool.eq_false_iff.mpr c8
       subst c8
       rw [if_neg (show ¬ (false = true) by decide)] at H
       obtain ⟨bH,H⟩ := iS H
       have bI := decide_eq_true bH
       clear bH
       obtain ⟨bJ,H⟩ := iS H
       have bK := decide_eq_true bJ
       clear bJ
       by_cases aV : ((rd_T55 l0 aa).f0).toList = a1.toList
       ·rw [if_pos aV] at H
        have bc := beq_iff_eq.mpr aV
        have bd := bne_eq_false_iff_eq.mpr aV
        clear aV
        have H' := aK H
        clear H
        have ar : 0 ≤ (aa : Int) := dA
        have au : aa < (l0.length : Int) := dA
        obtain ⟨aM,aW,ae,af⟩ := at_T55 aN.out aa ar au
        cases aW
        replace ae := xM HB ae
        replace af := xM HB af
        replace ar := eq_true ar
        replace au := eq_true au
        go_wp2
        go_roundg kj4
        case measure => have := aD.out;have := aH.out;omega
        case rel => exact ⟨(ab),(ag),(wrap64 (aa + 1)),(by first|rfl|(simp;done)|(simp [*];done)),(by first|rfl|(simp;done)|(simp [*];done)),H',⟨by have := aD.out;have := aH.out;omega⟩,⟨rM ah.out⟩,⟨bM HB.out⟩⟩
       ·rw [if_neg aV] at H
        have bc := beq_eq_false_iff_ne.mpr aV
        have bd := bne_iff_ne.mpr aV
        obtain ⟨bL,H⟩ := iS H
        have be := aK bL
        clear bL
        obtain ⟨bf,am⟩ : ∃ y_ : List (S55),y_ = (ab ++ [(⟨(rd_T55 l0 aa).f0,(rd_T55 l0 aa).f1⟩ : S55)]) := ⟨_,rfl⟩
        replace H : (r25_Set.l0 kj4 l0 a1 a2 bf ag (wrap64 (aa + 1))) = some r := by first|(rw [am];with_reducible exact H)|(have ao := (Option.bind_some _ _).symm.trans H;rw [am];with_reducible exact ao)|(have ao := (Option.bind_some _ _).symm.trans H;with_reducible exact ao)|with_reducible exact H|(rw [am];exact H)|exact H
        have bg := aK am
        clear am
        have H' := aK H
        clear H
        have ar : 0 ≤ (aa : Int) := dA
        have au : aa < (l0.length : Int) := dA
        obtain ⟨aM,aW,ae,af⟩ := at_T55 aN.out aa ar au
        cases aW
        replace ae := xM HB ae
        replace af := xM HB af
        replace ar := eq_true ar
        replace au := eq_true au
        have aX : 0 ≤ (aa : Int) := dA
        have aY : aa < (l0.length : Int) := dA
        obtain ⟨bh,bs,ay,az⟩ := at_T55 aN.out aa aX aY
        obtain rfl : aM = bh := (by injection bs)
        replace ay := xM HB ay
        replace az := xM HB az
        replace aX := eq_true aX
        replace aY := eq_true aY
        go_wp2_with (first|((with_reducible refine gate_builtin (b := .append) (xs := #[.tmp 42,.tmp 47]) rfl ?_);at_builtin;refine Kd.R_append k55 (w0 := w) w.heap.size rfl (.tmp 42) (.tmp 47) 35 55 (.agg #[(.string ⟨#[]⟩),(.int .i64 0)]) 24 rfl Tryz.underlying35 info55 rfl (by decide) (by omega) u7 ab (⟨(rd_T55 l0 aa).f0,(rd_T55 l0 aa).f1⟩ : S55) [.string ((rd_T55 l0 aa).f0),.int .i64 ((rd_T55 l0 aa).f1)] (fun _ => True) (fun _ => False) rfl rfl ?aP (fun _ hk => hk.elim) ?aF ?aO ?aB ?aS ?aL ?_;(case aP => exact k55_mkM _ _ _ (⟨(rd_T55 l0 aa).f0,(rd_T55 l0 aa).f1⟩ : S55));(case aB => exact (bM HB.out));(case aF => exact (fun _ _ => trivial));(case aO => exact (rM ah.out));(case aS => exact (below_size (bM HB.out)));(case aL => have := be.out;omega);intro bQ bW ho hb hg hat;rw [← bg.out] at ho;replace HB := aK (hb);have bi := aK (ho);clear ho hb hg hat))
        go_roundg kj4
        case measure => have := aD.out;have := aH.out;omega
        case rel => exact ⟨(bf),(ag),(wrap64 (aa + 1)),(by first|rfl|(simp;done)|(simp [*];done)),(by first|rfl|(simp;done)|(simp [*];done)),H',⟨by have := aD.out;have := aH.out;omega⟩,⟨rM bi.out⟩,⟨bM HB.out⟩⟩
   ·rw [if_neg c4] at H
    have aZ := decide_eq_false c4
    clear c4
    by_cases bn : ag = true
    ·subst bn
     rw [if_pos rfl] at H
     obtain rfl := Option.some.inj H
     go_wp2
     go_ret
     exact ⟨_,by first|rfl|(simp [errW_none,errW_some] <;> rfl)|(simp [*,errW_none,errW_some] <;> rfl),rM ah.out,bM HB.out⟩
    ·replace bn := Bool.eq_false_iff.mpr bn
     subst bn
     rw [if_neg (show ¬ (false = true) by decide)] at H
     by_cases bo : ab.length < 5864062014805
     ·rw [if_pos bo] at H
      have bj := aK bo
      clear bo
      obtain ⟨bu,an⟩ : ∃ y_ : List (S55),y_ = (ab ++ [(⟨a1,a2⟩ : S55)]) := ⟨_,rfl⟩
      replace H : (some bu) = some r := by first|(rw [an];with_reducible exact H)|(have ao := (Option.bind_some _ _).symm.trans H;rw [an];with_reducible exact ao)|(have ao := (Option.bind_some _ _).symm.trans H;with_reducible exact ao)|with_reducible exact H|(rw [an];exact H)|exact H
      have bk := aK an
      clear an
      obtain rfl := Option.some.inj H
      go_wp2_with (first|((with_reducible refine gate_builtin (b := .append) (xs := #[.tmp 51,.tmp 55]) rfl ?_);at_builtin;refine Kd.R_append k55 (w0 := w) w.heap.size rfl (.tmp 51) (.tmp 55) 35 55 (.agg #[(.string ⟨#[]⟩),(.int .i64 0)]) 24 rfl Tryz.underlying35 info55 rfl (by decide) (by omega) u7 ab (⟨a1,a2⟩ : S55) [.string a1,.int .i64 a2] (fun _ => True) (fun _ => False) rfl rfl ?aP (fun _ hk => hk.elim) ?aF ?aO ?aB ?aS ?aL ?_;(case aP => exact k55_mkM _ _ _ (⟨a1,a2⟩ : S55));(case aB => exact (bM HB.out));(case aF => exact (fun _ _ => trivial));(case aO => exact (rM ah.out));(case aS => exact (below_size (bM HB.out)));(case aL => have := bj.out;omega);intro bR bX ho hb hg hat;rw [← bk.out] at ho;replace HB := aK (hb);have bm := aK (ho);clear ho hb hg hat))
      go_ret
      exact ⟨_,by first|rfl|(simp [errW_none,errW_some] <;> rfl)|(simp [*,errW_none,errW_some] <;> rfl),rM bm.out,bM HB.out⟩
     ·rw [if_neg bo] at H
      exact absurd H (by simp)

/-! ### r02_Letter: function 113 -/
def r02_Letter.f (a0 : Int) : Option (Bool) := if a0 ≥ 65 then (if a0 ≤ 90 then (some true) else (if a0 ≥ 97 then (some (decide (a0 ≤ 122))) else (some false))) else (if a0 ≥ 97 then (some (decide (a0 ≤ 122))) else (some false))
theorem r02_Letter.calls (a0 : Int) (r : Bool) (w : World) (h : r02_Letter.f a0 = some r) :
  Calls Tryz.prog 113 #[.int .u8 a0] w fun e w' => e = .returned (.bool r) ∧ Drawn0 w w' := by
 have H : (if a0 ≥ 65 then (if a0 ≤ 90 then (some true) else (if a0 ≥ 97 then (some (decide (a0 ≤ 122))) else (some false))) else (if a0 ≥ 97 then (some (decide (a0 ≤ 122))) else (some false))) = some r := h
 clear h
 by_cases c2 : a0 ≥ 65
 ·rw [if_pos c2] at H
  have aa := decide_eq_true c2
  clear c2
  by_cases c3 : a0 ≤ 90
  ·rw [if_pos c3] at H
   have ab := decide_eq_true c3
   clear c3
   obtain rfl := Option.some.inj H
   go_enter Tryz.func113,Tryz.ntmps113
   go_wp2
   go_ret
   exact ⟨by first|rfl|(simp;done)|(simp [*];done),by repeat (first|exact Drawn0.refl _|apply Drawn0.step)⟩
  ·rw [if_neg c3] at H
   have ab := decide_eq_false c3
   clear c3
   by_cases c4 : a0 ≥ 97
   ·rw [if_pos c4] at H
    have ac := decide_eq_true c4
    clear c4
    obtain rfl := Option.some.inj H
    go_enter Tryz.func113,Tryz.ntmps113
    go_wp2
    go_ret
    exact ⟨by first|rfl|(simp;done)|(simp [*];done),by repeat (first|exact Drawn0.refl _|apply Drawn0.step)⟩
   ·rw [if_neg c4] at H
    have ac := decide_eq_false c4
    clear c4
    obtain rfl := Option.some.inj H
    go_enter Tryz.func113,Tryz.ntmps113
    go_wp2
    go_ret
    exact ⟨by first|rfl|(simp;done)|(simp [*];done),by repeat (first|exact Drawn0.refl _|apply Drawn0.step)⟩
 ·rw [if_neg c2] at H
  have aa := decide_eq_false c2
  clear c2
  by_cases c5 : a0 ≥ 97
  ·rw [if_pos c5] at H
   have ad := decide_eq_true c5
   clear c5
   obtain rfl := Option.some.inj H
   go_enter Tryz.func113,Tryz.ntmps113
   go_wp2
   go_ret
   exact ⟨by first|rfl|(simp;done)|(simp [*];done),by repeat (first|exact Drawn0.refl _|apply Drawn0.step)⟩
  ·rw [if_neg c5] at H
   have ad := decide_eq_false c5
   clear c5
   obtain rfl := Option.some.inj H
   go_enter Tryz.func113,Tryz.ntmps113
   go_wp2
   go_ret
   exact ⟨by first|rfl|(simp;done)|(simp [*];done),by repeat (first|exact Drawn0.refl _|apply Drawn0.step)⟩

/-! ### r02_Digit: function 114 -/
def r02_Digit.f (a0 : Int) : Option (Bool) := if a0 ≥ 48 then (some (decide (a0 ≤ 57))) else (some false)
theorem r02_Digit.calls (a0 : Int) (r : Bool) (w : World) (h : r02_Digit.f a0 = some r) :
  Calls Tryz.prog 114 #[.int .u8 a0] w fun e w' => e = .returned (.bool r) ∧ Drawn0 w w' := by
 have H : (if a0 ≥ 48 then (some (decide (a0 ≤ 57))) else (some false)) = some r := h
 clear h
 by_cases c2 : a0 ≥ 48
 ·rw [if_pos c2] at H
  have aa := decide_eq_true c2
  clear c2
  obtain rfl := Option.some.inj H
  go_enter Tryz.func114,Tryz.ntmps114
  go_wp2
  go_ret
  exact ⟨by first|rfl|(simp;done)|(simp [*];done),by repeat (first|exact Drawn0.refl _|apply Drawn0.step)⟩
 ·rw [if_neg c2] at H
  have aa := decide_eq_false c2
  clear c2
  obtain rfl := Option.some.inj H
  go_enter Tryz.func114,Tryz.ntmps114
  go_wp2
  go_ret
  exact ⟨by first|rfl|(simp;done)|(simp [*];done),by repeat (first|exact Drawn0.refl _|apply Drawn0.step)⟩

/-! ### r02_name: function 107 -/
mutual
def r02_name.j0 : Nat → ByteArray → Bool → Option (Bool)
|0,_,_ => none
|k + 1,x0,aa => if aa = true then (some false) else (r02_name.l0 k x0 0)
def r02_name.l0 : Nat → ByteArray → Int → Option (Bool)
|0,_,_ => none
|k + 1,x0,x3 => if x3 < (x0.size : Int) then (if 0 ≤ x3 then ((r02_Letter.f (bt x0 x3)).bind fun aa => (if aa = true then (r02_name.l0 k x0 (wrap64 (x3 + 1))) else ((r02_Digit.f (bt x0 x3)).bind fun ab => (if ab = true then (r02_name.l0 k x0 (wrap64 (x3 + 1))) else (if (bt x0 x3) = 46 then (r02_name.l0 k x0 (wrap64 (x3 + 1))) else (if (bt x0 x3) = 95 then (r02_name.l0 k x0 (wrap64 (x3 + 1))) else (if (bt x0 x3) = 45 then (r02_name.l0 k x0 (wrap64 (x3 + 1))) else (some false)))))))) else (none)) else (some true)
end
def r02_name.f (k : Nat) (a0 : ByteArray) : Option (Bool) := if (a0.size : Int) < 1 then (r02_name.j0 k a0 true) else (if (a0.size : Int) > 24 then (r02_name.j0 k a0 true) else (if a0.toList = ([46] : List UInt8) then (r02_name.j0 k a0 true) else (r02_name.j0 k a0 (a0.toList == ([46, 46] : List UInt8)))))
theorem r02_name.mono_l : ∀ k, (∀ y0 y1, LeO (r02_name.j0 k y0 y1) (r02_name.j0 (k + 1) y0 y1)) ∧ (∀ y0 y1, LeO (r02_name.l0 k y0 y1) (r02_name.l0 (k + 1) y0 y1))
|0 => ⟨fun _ _ r h => by simp [r02_name.j0] at h,fun _ _ r h => by simp [r02_name.l0] at h⟩
|k + 1 => by
  obtain ⟨ih0,ih1⟩ := r02_name.mono_l k
  refine ⟨?_,?_⟩
  ·intro y0 y1
   unfold r02_name.j0
   repeat' (with_reducible first|exact ih1 _ _|exact LeO.refl _|exact LeO.none _|refine LeO.ite ?_ ?_|refine LeO.bind ?_ (fun _ => ?_))
  ·intro y0 y1
   unfold r02_name.l0
   repeat' (with_reducible first|exact ih1 _ _|exact LeO.refl _|exact LeO.none _|refine LeO.ite ?_ ?_|refine LeO.bind ?_ (fun _ => ?_))
theorem r02_name.mono : ∀ a0 k, LeO (r02_name.f k a0) (r02_name.f (k + 1) a0) := by
 intro a0 k
 obtain ⟨ih0,ih1⟩ := r02_name.mono_l k
 unfold r02_name.f
 repeat' (with_reducible first|exact ih0 _ _|exact ih1 _ _|exact LeO.refl _|exact LeO.none _|refine LeO.ite ?_ ?_|refine LeO.bind ?_ (fun _ => ?_))
theorem r02_name.calls (k : Nat) (a0 : ByteArray) (r : Bool) (w : World) (h : r02_name.f k a0 = some r) :
  Calls Tryz.prog 107 #[.string a0] w fun e w' => e = .returned (.bool r) ∧ Drawn0 w w' := by
 unfold r02_name.f at h
 have H := h
 clear h
 have aJ := aK H
 clear H
 go_enter Tryz.func107,Tryz.ntmps107
 go_upto_region 1 with (fail)
 go_cut [19] (fun aT wc => ∃ (kq : Nat) (ab : Bool),aT = .bool ab ∧ Aside0 (r02_name.j0 kq a0 ab = some r) ∧ Aside0 (kq ≤ k) ∧ Drawn0 w wc)
 case first =>
  have H := aJ.out
  clear aJ
  by_cases c3 : (a0.size : Int) < 1
  ·rw [if_pos c3] at H
   have ae := decide_eq_true c3
   have am : decide (a0.size < 1) = true := decide_eq_true (by omega)
   clear c3
   (first|rw [ae]|(simp only [i64_w,i32_w];rw [ae])|rw [am]|skip)
   have H' := aK H
   clear H
   go_wp2
   go_meet
   case rel => exact ⟨_,(true),(by first|rfl|(simp;done)|(simp [*];done)),H',⟨by first|omega|exact Nat.le_refl _⟩,by repeat (first|exact Drawn0.refl _|apply Drawn0.step)⟩
  ·rw [if_neg c3] at H
   have ae := decide_eq_false c3
   have am : decide (a0.size < 1) = false := decide_eq_false (by omega)
   clear c3
   (first|rw [ae]|(simp only [i64_w,i32_w];rw [ae])|rw [am]|skip)
   by_cases c4 : (a0.size : Int) > 24
   ·rw [if_pos c4] at H
    have aL := decide_eq_true c4
    have aM : decide (24 < a0.size) = true := decide_eq_true (by omega)
    clear c4
    have H' := aK H
    clear H
    go_wp2
    go_meet
    case rel => exact ⟨_,(true),(by first|rfl|(simp;done)|(simp [*];done)),H',⟨by first|omega|exact Nat.le_refl _⟩,by repeat (first|exact Drawn0.refl _|apply Drawn0.step)⟩
   ·rw [if_neg c4] at H
    have aL := decide_eq_false c4
    have aM : decide (24 < a0.size) = false := decide_eq_false (by omega)
    clear c4
    by_cases c5 : a0.toList = ([46] : List UInt8)
    ·rw [if_pos c5] at H
     have aN := beq_iff_eq.mpr c5
     have aO := bne_eq_false_iff_eq.mpr c5
     clear c5
     have H' := aK H
     clear H
     go_wp2
     go_meet
     case rel => exact ⟨_,(true),(by first|rfl|(simp;done)|(simp [*];done)),H',⟨by first|omega|exact Nat.le_refl _⟩,by repeat (first|exact Drawn0.refl _|apply Drawn0.step)⟩
    ·rw [if_neg c5] at H
     have aN := beq_eq_false_iff_ne.mpr c5
     have aO := bne_iff_ne.mpr c5
     have H' := aK H
     clear H
     go_wp2
     go_meet
     case rel => exact ⟨_,((a0.toList == ([46,46] : List UInt8))),(by first|rfl|(simp;done)|(simp [*];done)),H',⟨by first|omega|exact Nat.le_refl _⟩,by repeat (first|exact Drawn0.refl _|apply Drawn0.step)⟩
 case rest =>
  clear aJ
  try clear p2
  obtain ⟨kq,ab,rfl,HA,ah,⟨aV,rfl⟩⟩ := hcut
  cases kq with
 |zero => exact absurd HA.out (by simp [r02_name.j0])
 |succ kj1 =>
   have H := HA.out
   clear HA
   simp only [r02_name.j0] at H
   by_cases c6 : ab = true
   ·subst c6
    rw [if_pos rfl] at H
    obtain rfl := Option.some.inj H
    go_wp2
    go_ret
    exact ⟨by first|rfl|(simp;done)|(simp [*];done),by repeat (first|exact Drawn0.refl _|apply Drawn0.step)⟩
   ·replace c6 := Bool.eq_false_iff.mpr c6
    subst c6
    rw [if_neg (show ¬ (false = true) by decide)] at H
    have H' := aK H
    clear H
    go_wp2
    go_loopg [3] kj1 (fun kq v3 w' => ∃ (aa : Int),v3 = .int .i64 aa ∧ Aside0 (r02_name.l0 kq a0 aa = some r) ∧ Aside0 (kq ≤ kj1) ∧ Drawn0 w w')
    case atStart => exact ⟨(0),(by first|rfl|(simp;done)|(simp [*];done)),H',⟨Nat.le_refl _⟩,by repeat (first|exact Drawn0.refl _|apply Drawn0.step)⟩
    case round =>
     clear H'
     try clear p2
     try clear c6
     try clear p2
     obtain ⟨aa,rfl,HA,ai,⟨m2,rfl⟩⟩ := hrel
     cases gk with
    |zero => exact absurd HA.out (by simp [r02_name.l0])
    |succ k2 =>
      have H := HA.out
      clear HA
      simp only [r02_name.l0] at H
      by_cases c7 : aa < (a0.size : Int)
      ·rw [if_pos c7] at H
       have aP := decide_eq_true c7
       clear c7
       obtain ⟨c8,H⟩ := iS H
       have aU := decide_eq_true c8
       clear c8
       replace H := Option.bind_eq_some_iff.mp H
       obtain ⟨aQ,au,H⟩ := H
       have ar := aK au
       clear au
       by_cases aH : aQ = true
       ·subst aH
        rw [if_pos rfl] at H
        have H' := aK H
        clear H
        have p9 : 0 ≤ (aa : Int) := dA
        have q9 : aa < (a0.size : Int) := dA
        have av := bt_at a0 aa
        replace p9 := eq_true p9
        replace q9 := eq_true q9
        go_wp2_with (first|((with_reducible refine gate_callee (f := 113) rfl ?_);refine gL 29 Tryz.func113 #[.int .u8 (bt a0 aa)] ?_;(with_reducible refine (r02_Letter.calls (bt a0 aa) true _ ar.out).mono ?_);rintro e w' ⟨rfl,⟨nd,rfl⟩⟩;refine ⟨_,rfl,?_⟩))
        go_roundg k2
        case measure => have := ah.out;have := ai.out;omega
        case rel => exact ⟨(wrap64 (aa + 1)),(by first|rfl|(simp;done)|(simp [*];done)),H',⟨by have := ah.out;have := ai.out;omega⟩,by repeat (first|exact Drawn0.refl _|apply Drawn0.step)⟩
       ·replace aH := Bool.eq_false_iff.mpr aH
        subst aH
        rw [if_neg (show ¬ (false = true) by decide)] at H
        replace H := Option.bind_eq_some_iff.mp H
        obtain ⟨aR,aw,H⟩ := H
        have ax := aK aw
        clear aw
        by_cases aI : aR = true
        ·subst aI
         rw [if_pos rfl] at H
         have H' := aK H
         clear H
         have p9 : 0 ≤ (aa : Int) := dA
         have q9 : aa < (a0.size : Int) := dA
         have av := bt_at a0 aa
         replace p9 := eq_true p9
         replace q9 := eq_true q9
         go_wp2_with (first|((with_reducible refine gate_callee (f := 113) rfl ?_);refine gL 29 Tryz.func113 #[.int .u8 (bt a0 aa)] ?_;(with_reducible refine (r02_Letter.calls (bt a0 aa) false _ ar.out).mono ?_);rintro e w' ⟨rfl,⟨nd,rfl⟩⟩;refine ⟨_,rfl,?_⟩;have ac : 0 ≤ (aa : Int) := dA;have ad : aa < (a0.size : Int) := dA;have aj := bt_at a0 aa;replace ac := eq_true ac;replace ad := eq_true ad)|(go_at_call 114;(with_reducible refine (r02_Digit.calls (bt a0 aa) true _ ax.out).mono ?_);rintro e w' ⟨rfl,⟨nd,rfl⟩⟩))
         go_roundg k2
         case measure => have := ah.out;have := ai.out;omega
         case rel => exact ⟨(wrap64 (aa + 1)),(by first|rfl|(simp;done)|(simp [*];done)),H',⟨by have := ah.out;have := ai.out;omega⟩,by repeat (first|exact Drawn0.refl _|apply Drawn0.step)⟩
        ·replace aI := Bool.eq_false_iff.mpr aI
         subst aI
         rw [if_neg (show ¬ (false = true) by decide)] at H
         by_cases an : (bt a0 aa) = 46
         ·rw [if_pos an] at H
          have ay := beq_iff_eq.mpr an
          have az := bne_eq_false_iff_eq.mpr an
          clear an
          have H' := aK H
          clear H
          have p9 : 0 ≤ (aa : Int) := dA
          have q9 : aa < (a0.size : Int) := dA
          have av := bt_at a0 aa
          replace p9 := eq_true p9
          replace q9 := eq_true q9
          go_wp2_with (first|((with_reducible refine gate_callee (f := 113) rfl ?_);refine gL 29 Tryz.func113 #[.int .u8 (bt a0 aa)] ?_;(with_reducible refine (r02_Letter.calls (bt a0 aa) false _ ar.out).mono ?_);rintro e w' ⟨rfl,⟨nd,rfl⟩⟩;refine ⟨_,rfl,?_⟩;have ac : 0 ≤ (aa : Int) := dA;have ad : aa < (a0.size : Int) := dA;have aj := bt_at a0 aa;replace ac := eq_true ac;replace ad := eq_true ad)|(go_at_call 114;(with_reducible refine (r02_Digit.calls (bt a0 aa) false _ ax.out).mono ?_);rintro e w' ⟨rfl,⟨nd,rfl⟩⟩;have af : 0 ≤ (aa : Int) := dA;have ag : aa < (a0.size : Int) := dA;have ao := bt_at a0 aa;replace af := eq_true af;replace ag := eq_true ag))
          go_roundg k2
          case measure => have := ah.out;have := ai.out;omega
          case rel => exact ⟨(wrap64 (aa + 1)),(by first|rfl|(simp;done)|(simp [*];done)),H',⟨by have := ah.out;have := ai.out;omega⟩,by repeat (first|exact Drawn0.refl _|apply Drawn0.step)⟩
         ·rw [if_neg an] at H
          have ay := beq_eq_false_iff_ne.mpr an
          have az := bne_iff_ne.mpr an
          by_cases ap : (bt a0 aa) = 95
          ·rw [if_pos ap] at H
           have aA := beq_iff_eq.mpr ap
           have aB := bne_eq_false_iff_eq.mpr ap
           clear ap
           have H' := aK H
           clear H
           have p9 : 0 ≤ (aa : Int) := dA
           have q9 : aa < (a0.size : Int) := dA
           have av := bt_at a0 aa
           replace p9 := eq_true p9
           replace q9 := eq_true q9
           go_wp2_with (first|((with_reducible refine gate_callee (f := 113) rfl ?_);refine gL 29 Tryz.func113 #[.int .u8 (bt a0 aa)] ?_;(with_reducible refine (r02_Letter.calls (bt a0 aa) false _ ar.out).mono ?_);rintro e w' ⟨rfl,⟨nd,rfl⟩⟩;refine ⟨_,rfl,?_⟩;have ac : 0 ≤ (aa : Int) := dA;have ad : aa < (a0.size : Int) := dA;have aj := bt_at a0 aa;replace ac := eq_true ac;replace ad := eq_true ad)|(go_at_call 114;(with_reducible refine (r02_Digit.calls (bt a0 aa) false _ ax.out).mono ?_);rintro e w' ⟨rfl,⟨nd,rfl⟩⟩;have af : 0 ≤ (aa : Int) := dA;have ag : aa < (a0.size : Int) := dA;have ao := bt_at a0 aa;replace af := eq_true af;replace ag := eq_true ag;have ak : 0 ≤ (aa : Int) := dA;have al : aa < (a0.size : Int) := dA;have aC := bt_at a0 aa;replace ak := eq_true ak;replace al := eq_true al))
           go_roundg k2
           case measure => have := ah.out;have := ai.out;omega
           case rel => exact ⟨(wrap64 (aa + 1)),(by first|rfl|(simp;done)|(simp [*];done)),H',⟨by have := ah.out;have := ai.out;omega⟩,by repeat (first|exact Drawn0.refl _|apply Drawn0.step)⟩
          ·rw [if_neg ap] at H
           have aA := beq_eq_false_iff_ne.mpr ap
           have aB := bne_iff_ne.mpr ap
           by_cases aq : (bt a0 aa) = 45
           ·rw [if_pos aq] at H
            have aD := beq_iff_eq.mpr aq
            have aE := bne_eq_false_iff_eq.mpr aq
            clear aq
            have H' := aK H
            clear H
            have p9 : 0 ≤ (aa : Int) := dA
            have q9 : aa < (a0.size : Int) := dA
            have av := bt_at a0 aa
            replace p9 := eq_true p9
            replace q9 := eq_true q9
            go_wp2_with (first|((with_reducible refine gate_callee (f := 113) rfl ?_);refine gL 29 Tryz.func113 #[.int .u8 (bt a0 aa)] ?_;(with_reducible refine (r02_Letter.calls (bt a0 aa) false _ ar.out).mono ?_);rintro e w' ⟨rfl,⟨nd,rfl⟩⟩;refine ⟨_,rfl,?_⟩;have ac : 0 ≤ (aa : Int) := dA;have ad : aa < (a0.size : Int) := dA;have aj := bt_at a0 aa;replace ac := eq_true ac;replace ad := eq_true ad)|(go_at_call 114;(with_reducible refine (r02_Digit.calls (bt a0 aa) false _ ax.out).mono ?_);rintro e w' ⟨rfl,⟨nd,rfl⟩⟩;have af : 0 ≤ (aa : Int) := dA;have ag : aa < (a0.size : Int) := dA;have ao := bt_at a0 aa;replace af := eq_true af;replace ag := eq_true ag;have ak : 0 ≤ (aa : Int) := dA;have al : aa < (a0.size : Int) := dA;have aC := bt_at a0 aa;replace ak := eq_true ak;replace al := eq_true al;have aF : 0 ≤ (aa : Int) := dA;have aG : aa < (a0.size : Int) := dA;have aS := bt_at a0 aa;replace aF := eq_true aF;replace aG := eq_true aG))
            go_roundg k2
            case measure => have := ah.out;have := ai.out;omega
            case rel => exact ⟨(wrap64 (aa + 1)),(by first|rfl|(simp;done)|(simp [*];done)),H',⟨by have := ah.out;have := ai.out;omega⟩,by repeat (first|exact Drawn0.refl _|apply Drawn0.step)⟩
           ·rw [if_neg aq] at H
            have aD := beq_eq_false_iff_ne.mpr aq
            have aE := bne_iff_ne.mpr aq
            obtain rfl := Option.some.inj H
            have p9 : 0 ≤ (aa : Int) := dA
            have q9 : aa < (a0.size : Int) := dA
            have av := bt_at a0 aa
            replace p9 := eq_true p9
            replace q9 := eq_true q9
            go_wp2_with (first|((with_reducible refine gate_callee (f := 113) rfl ?_);refine gL 29 Tryz.func113 #[.int .u8 (bt a0 aa)] ?_;(with_reducible refine (r02_Letter.calls (bt a0 aa) false _ ar.out).mono ?_);rintro e w' ⟨rfl,⟨nd,rfl⟩⟩;refine ⟨_,rfl,?_⟩;have ac : 0 ≤ (aa : Int) := dA;have ad : aa < (a0.size : Int) := dA;have aj := bt_at a0 aa;replace ac := eq_true ac;replace ad := eq_true ad)|(go_at_call 114;(with_reducible refine (r02_Digit.calls (bt a0 aa) false _ ax.out).mono ?_);rintro e w' ⟨rfl,⟨nd,rfl⟩⟩;have af : 0 ≤ (aa : Int) := dA;have ag : aa < (a0.size : Int) := dA;have ao := bt_at a0 aa;replace af := eq_true af;replace ag := eq_true ag;have ak : 0 ≤ (aa : Int) := dA;have al : aa < (a0.size : Int) := dA;have aC := bt_at a0 aa;replace ak := eq_true ak;replace al := eq_true al;have aF : 0 ≤ (aa : Int) := dA;have aG : aa < (a0.size : Int) := dA;have aS := bt_at a0 aa;replace aF := eq_true aF;replace aG := eq_true aG))
            go_ret
            exact ⟨by first|rfl|(simp;done)|(simp [*];done),by repeat (first|exact Drawn0.refl _|apply Drawn0.step)⟩
      ·rw [if_neg c7] at H
       have aP := decide_eq_false c7
       clear c7
       obtain rfl := Option.some.inj H
       go_wp2
       go_ret
       exact ⟨by first|rfl|(simp;done)|(simp [*];done),by repeat (first|exact Drawn0.refl _|apply Drawn0.step)⟩
end Go.Proofs.YtgadbpljlpclnaaGreatDoor.H
