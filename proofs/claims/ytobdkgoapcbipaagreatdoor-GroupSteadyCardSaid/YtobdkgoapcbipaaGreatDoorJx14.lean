import Derived.Test.YtobdkgoapcbipaaGreatDoorJx0
import Derived.Test.YtobdkgoapcbipaaGreatDoorJx1
namespace Go.Proofs.YtobdkgoapcbipaaGreatDoor.J
open Go.RowKit Go.Proofs.YtobdkgoapcbipaaGreatDoorW.PrintWords Go.Proofs.YtobdkgoapcbipaaGreatDoorW.PrintLast Go.Proofs.YtobdkgoapcbipaaGreatDoorW.PrintMore
set_option maxHeartbeats 4000000
set_option maxRecDepth 100000
attribute [local go_sem] max2_int min2_int max_two min_two max_three min_three max_four min_four
set_option linter.unusedVariables false
set_option linter.unusedSimpArgs false

/-! ### r26_PutText: function 46 -/
mutual
def r26_PutText.l0 : Nat → List ByteArray → ByteArray → List ByteArray → Bool → Int → Option (List ByteArray)
|0,_,_,_,_,_ => none
|k + 1,x0,x1,x5,x6,x7 => if x7 < (x0.length : Int) then (if x6 = true then (r26_PutText.j1 k x0 x1 x5 x6 x7 false) else (if 0 ≤ x7 then (r26_PutText.j1 k x0 x1 x5 x6 x7 (!(Op.bytesLess ((rdOf ByteArray.empty x0 x7).toList) x1.toList))) else (none))) else (if x6 = true then (some x5) else (if x5.length < 8796093022208 then (some (x5 ++ [x1])) else (none)))
def r26_PutText.j1 : Nat → List ByteArray → ByteArray → List ByteArray → Bool → Int → Bool → Option (List ByteArray)
|0,_,_,_,_,_,_ => none
|k + 1,x0,x1,x5,x6,x7,ab => if ab = true then (if 0 ≤ x7 then (if x7 < (x0.length : Int) then (if (Op.bytesLess x1.toList ((rdOf ByteArray.empty x0 x7).toList)) = true then (if x5.length < 8796093022208 then ((some (x5 ++ [x1] : List ByteArray)).bind fun aa => (if aa.length < 8796093022208 then (r26_PutText.l0 k x0 x1 (aa ++ [rdOf ByteArray.empty x0 x7]) true (wrap64 (x7 + 1))) else (none))) else (none)) else (if x5.length < 8796093022208 then (r26_PutText.l0 k x0 x1 (x5 ++ [rdOf ByteArray.empty x0 x7]) true (wrap64 (x7 + 1))) else (none))) else (none)) else (none)) else (if 0 ≤ x7 then (if x7 < (x0.length : Int) then (if x5.length < 8796093022208 then (r26_PutText.l0 k x0 x1 (x5 ++ [rdOf ByteArray.empty x0 x7]) x6 (wrap64 (x7 + 1))) else (none)) else (none)) else (none))
end
def r26_PutText.f (k : Nat) (l0 : List ByteArray) (a1 : ByteArray) : Option (List ByteArray) := r26_PutText.l0 k l0 a1 (([] : List ByteArray)) false 0
theorem r26_PutText.mono_l : ∀ k, (∀ y0 y1 y2 y3 y4, LeO (r26_PutText.l0 k y0 y1 y2 y3 y4) (r26_PutText.l0 (k + 1) y0 y1 y2 y3 y4)) ∧ (∀ y0 y1 y2 y3 y4 y5, LeO (r26_PutText.j1 k y0 y1 y2 y3 y4 y5) (r26_PutText.j1 (k + 1) y0 y1 y2 y3 y4 y5))
|0 => ⟨fun _ _ _ _ _ r h => by simp [r26_PutText.l0] at h,fun _ _ _ _ _ _ r h => by simp [r26_PutText.j1] at h⟩
|k + 1 => by
  obtain ⟨ih0,ih1⟩ := r26_PutText.mono_l k
  refine ⟨?_,?_⟩
  ·intro y0 y1 y2 y3 y4
   unfold r26_PutText.l0
   repeat' (with_reducible first|exact ih1 _ _ _ _ _ _|exact LeO.refl _|exact LeO.none _|refine LeO.ite ?_ ?_|refine LeO.bind ?_ (fun _ => ?_))
  ·intro y0 y1 y2 y3 y4 y5
   unfold r26_PutText.j1
   repeat' (with_reducible first|exact ih0 _ _ _ _ _|exact LeO.refl _|exact LeO.none _|refine LeO.ite ?_ ?_|refine LeO.bind ?_ (fun _ => ?_))
theorem r26_PutText.mono : ∀ a0 a1 k, LeO (r26_PutText.f k a0 a1) (r26_PutText.f (k + 1) a0 a1) := by
 intro a0 a1 k
 obtain ⟨ih0,ih1⟩ := r26_PutText.mono_l k
 unfold r26_PutText.f
 repeat' (with_reducible first|exact ih0 _ _ _ _ _|exact ih1 _ _ _ _ _ _|exact LeO.refl _|exact LeO.none _|refine LeO.ite ?_ ?_|refine LeO.bind ?_ (fun _ => ?_))
theorem r26_PutText.calls (k : Nat) (A0 : Option Addr) (c0 : Nat) (l0 : List ByteArray) (a1 : ByteArray) (r : List ByteArray) (w : World) (bu : Kd.C Kd.string w A0 l0.length l0) (bv : l0.length ≤ c0) (h : r26_PutText.f k l0 a1 = some r) :
  Calls Tryz.prog 46 #[.slice A0 l0.length c0,.string a1] w fun e w' => ∃ bx : Value,e = .returned (bx) ∧ Kd.R Kd.string 9 w' w.heap.size (fun _ => True) bx r ∧ Below w.heap.size w w' := by
 have aM := aK bu
 have bV := aK bv
 clear bu bv
 have HB := aK (Below.refl w.heap.size w)
 have H : (r26_PutText.l0 k l0 a1 (([] : List ByteArray)) false 0) = some r := h
 clear h
 obtain ⟨aR,af⟩ : ∃ y_ : List ByteArray,y_ = (([] : List ByteArray)) := ⟨_,rfl⟩
 replace H : (r26_PutText.l0 k l0 a1 aR false 0) = some r := by first|(rw [af];with_reducible exact H)|(have ad := (Option.bind_some _ _).symm.trans H;rw [af];with_reducible exact ad)|(have ad := (Option.bind_some _ _).symm.trans H;with_reducible exact ad)|with_reducible exact H|(rw [af];exact H)|exact H
 have az := aK af
 clear af
 have H' := aK H
 clear H
 go_enter Tryz.func46,Tryz.ntmps46
 go_wp2_with (first|((with_reducible refine gate_dst (N := 8) rfl ?_);refine Kd.R_lit Kd.string _ 9 ?hg (N := 8) ?hd (xs := ([] : List ByteArray)) (inner := []) (ok := fun _ => True) (okp := fun _ => True) ?hr ?hp (fun _ hk => hk) trivial (Below.refl _ _) (Nat.le_refl _) (by simp) ?_;(case hd => rfl);(case hg => rfl);(case hr => first|(go_simp;done)|(go_simp;rfl));(case hp => exact (Reps.none _ _));intro bP w3 aT hb hg_ hnew_;clear hg_ hnew_;(first|rw [← az.out] at aT|(simp only [Int.reduceToNat] at aT;rw [← az.out] at aT));have aU := aK (Kd.R_lower aT (below_size (bM HB.out)));replace HB := aK (below_step (bM HB.out) hb);clear hb aT))
 go_loopg [5,6,7] k (fun kq v5 v6 v7 w' => ∃ (ab : List ByteArray) (ag : Bool) (aa : Int),v6 = .bool ag ∧ v7 = .int .i64 aa ∧ Aside0 (r26_PutText.l0 kq l0 a1 ab ag aa = some r) ∧ Aside0 (kq ≤ k) ∧ Aside0 (Kd.R Kd.string 9 w' w.heap.size (fun _ => True) v5 ab) ∧ Aside0 (Below w.heap.size w w'))
 case atStart => exact ⟨(aR),(false),(0),(by first|rfl|(simp;done)|(simp [*];done)),(by first|rfl|(simp;done)|(simp [*];done)),H',⟨Nat.le_refl _⟩,⟨rM aU.out⟩,⟨bM HB.out⟩⟩
 case round =>
  clear H'
  try clear p2
  obtain ⟨ab,ag,aa,rfl,rfl,HA,aA,ah,HB⟩ := hrel
  cases gk with
 |zero => exact absurd HA.out (by simp [r26_PutText.l0])
 |succ k1 =>
   have H := HA.out
   clear HA
   simp only [r26_PutText.l0] at H
   by_cases c5 : aa < (l0.length : Int)
   ·rw [if_pos c5] at H
    have aV := decide_eq_true c5
    clear c5
    have bm := aK H
    clear H
    go_upto_region 6 with (fail)
    go_cut [24] (fun bQ wc => ∃ (kq : Nat) (ap : Bool),bQ = .bool ap ∧ Aside0 (r26_PutText.j1 kq l0 a1 ab ag aa ap = some r) ∧ Aside0 (kq ≤ k1) ∧ Aside0 (Kd.R Kd.string 9 wc w.heap.size (fun _ => True) u5 ab) ∧ Aside0 (Below w.heap.size w wc))
    case first =>
     have H := bm.out
     clear bm
     by_cases c7 : ag = true
     ·subst c7
      rw [if_pos rfl] at H
      have H' := aK H
      clear H
      go_wp2
      go_meet
      case rel => exact ⟨_,(false),(by first|rfl|(simp;done)|(simp [*];done)),H',⟨by have := aA.out;first|omega|exact Nat.le_refl _⟩,⟨rM ah.out⟩,⟨bM HB.out⟩⟩
     ·replace c7 := Bool.eq_false_iff.mpr c7
      subst c7
      rw [if_neg (show ¬ (false = true) by decide)] at H
      obtain ⟨c8,H⟩ := iS H
      have aW := decide_eq_true c8
      clear c8
      (first|rw [aW]|(simp only [i64_w,i32_w];rw [aW])|rw [c8b1]|skip)
      have H' := aK H
      clear H
      have aw : 0 ≤ (aa : Int) := dA
      have ax : aa < (l0.length : Int) := dA
      obtain ⟨bz,bn,ae⟩ := Kd.at_string aM.out aa aw ax
      cases bn
      replace ae := xM HB ae
      replace aw := eq_true aw
      replace ax := eq_true ax
      go_wp2
      go_meet
      case rel => exact ⟨_,(!(Op.bytesLess ((rdOf ByteArray.empty l0 aa).toList) a1.toList)),(by first|rfl|(simp;done)|(simp [*];done)),H',⟨by have := aA.out;first|omega|exact Nat.le_refl _⟩,⟨rM ah.out⟩,⟨bM HB.out⟩⟩
    case rest =>
     clear bm
     try clear p2
     try clear p3
     try clear q3
     try clear hx3
     try clear c5
     try clear aV
     try clear ae
     try clear p2
     try clear aw
     try clear ax
     obtain ⟨kq,ap,rfl,HA,aN,ah,HB⟩ := hcut
     cases kq with
    |zero => exact absurd HA.out (by simp [r26_PutText.j1])
    |succ kj5 =>
      have H := HA.out
      clear HA
      simp only [r26_PutText.j1] at H
      by_cases c9 : ap = true
      ·subst c9
       rw [if_pos rfl] at H
       obtain ⟨c10,H⟩ := iS H
       have bB := decide_eq_true c10
       clear c10
       obtain ⟨bC,H⟩ := iS H
       have bD := decide_eq_true bC
       clear bC
       by_cases aQ : (Op.bytesLess a1.toList ((rdOf ByteArray.empty l0 aa).toList)) = true
       ·rw [if_pos aQ] at H
        have aX : (Op.bytesLess a1.toList ((rdOf ByteArray.empty l0 aa).toList)) = true := aQ
        clear aQ
        obtain ⟨bE,H⟩ := iS H
        have aY := aK bE
        clear bE
        obtain ⟨ay,ai⟩ : ∃ y_ : List ByteArray,y_ = (ab ++ [a1]) := ⟨_,rfl⟩
        replace H : (if ay.length < 8796093022208 then (r26_PutText.l0 kj5 l0 a1 (ay ++ [rdOf ByteArray.empty l0 aa]) true (wrap64 (aa + 1))) else (none)) = some r := by first|(rw [ai];with_reducible exact H)|(have ad := (Option.bind_some _ _).symm.trans H;rw [ai];with_reducible exact ad)|(have ad := (Option.bind_some _ _).symm.trans H;with_reducible exact ad)|with_reducible exact H|(rw [ai];exact H)|exact H
        have aZ := aK ai
        clear ai
        obtain ⟨bF,H⟩ := iS H
        have a0 := aK bF
        clear bF
        obtain ⟨a2,aj⟩ : ∃ y_ : List ByteArray,y_ = (ay ++ [rdOf ByteArray.empty l0 aa]) := ⟨_,rfl⟩
        replace H : (r26_PutText.l0 kj5 l0 a1 a2 true (wrap64 (aa + 1))) = some r := by first|(rw [aj];with_reducible exact H)|(have ad := (Option.bind_some _ _).symm.trans H;rw [aj];with_reducible exact ad)|(have ad := (Option.bind_some _ _).symm.trans H;with_reducible exact ad)|with_reducible exact H|(rw [aj];exact H)|exact H
        have a3 := aK aj
        clear aj
        have H' := aK H
        clear H
        have an : 0 ≤ (aa : Int) := dA
        have ao : aa < (l0.length : Int) := dA
        obtain ⟨av,aC,ac⟩ := Kd.at_string aM.out aa an ao
        cases aC
        replace ac := xM HB ac
        replace an := eq_true an
        replace ao := eq_true ao
        go_wp2_with (first|((with_reducible refine gate_builtin (b := .append) (xs := #[.tmp 31,.tmp 33]) rfl ?_);at_builtin;refine Kd.R_append Kd.string (w0 := w) w.heap.size rfl (.tmp 31) (.tmp 33) 31 9 (.string ⟨#[]⟩) 16 rfl Tryz.underlying31 info9 rfl (by decide) (by omega) u5 ab a1 [.string a1] (fun _ => True) (fun _ => False) rfl rfl ?aP (fun _ hk => hk.elim) ?aF ?aO ?aB ?aS ?aL ?_;(case aP => exact rfl);(case aB => exact (bM HB.out));(case aF => exact (fun _ _ => trivial));(case aO => exact (rM ah.out));(case aS => exact (below_size (bM HB.out)));(case aL => have := aY.out;omega);intro bo bW ho hb hg hat;rw [← aZ.out] at ho;replace HB := aK (hb);have a4 := aK (ho);clear ho hb hg hat;have aD : 0 ≤ (aa : Int) := dA;have aE : aa < (l0.length : Int) := dA;obtain ⟨a5,bp,aq⟩ := Kd.at_string aM.out aa aD aE;obtain rfl : av = a5 := (by injection bp);replace aq := xM HB aq;replace aD := eq_true aD;replace aE := eq_true aE)|((with_reducible refine gate_builtin (b := .append) (xs := #[.tmp 35,.tmp 40]) rfl ?_);at_builtin;refine Kd.R_append Kd.string (w0 := w) w.heap.size rfl (.tmp 35) (.tmp 40) 31 9 (.string ⟨#[]⟩) 16 rfl Tryz.underlying31 info9 rfl (by decide) (by omega) bo ay (rdOf ByteArray.empty l0 aa) [.string (rdOf ByteArray.empty l0 aa)] (fun _ => True) (fun _ => False) rfl rfl ?aP (fun _ hk => hk.elim) ?aF ?aO ?aB ?aS ?aL ?_;(case aP => exact rfl);(case aB => exact (bM HB.out));(case aF => exact (fun _ _ => trivial));(case aO => exact (rM a4.out));(case aS => exact (below_size (bM HB.out)));(case aL => have := a0.out;omega);intro bR bX ho hb hg hat;rw [← a3.out] at ho;replace HB := aK (hb);have a6 := aK (ho);clear ho hb hg hat))
        go_roundg kj5
        case measure => have := aA.out;have := aN.out;omega
        case rel => exact ⟨(a2),(true),(wrap64 (aa + 1)),(by first|rfl|(simp;done)|(simp [*];done)),(by first|rfl|(simp;done)|(simp [*];done)),H',⟨by have := aA.out;have := aN.out;omega⟩,⟨rM a6.out⟩,⟨bM HB.out⟩⟩
       ·rw [if_neg aQ] at H
        have aX : (Op.bytesLess a1.toList ((rdOf ByteArray.empty l0 aa).toList)) = false := by simpa using aQ
        clear aQ
        obtain ⟨bH,H⟩ := iS H
        have a7 := aK bH
        clear bH
        obtain ⟨a8,ak⟩ : ∃ y_ : List ByteArray,y_ = (ab ++ [rdOf ByteArray.empty l0 aa]) := ⟨_,rfl⟩
        replace H : (r26_PutText.l0 kj5 l0 a1 a8 true (wrap64 (aa + 1))) = some r := by first|(rw [ak];with_reducible exact H)|(have ad := (Option.bind_some _ _).symm.trans H;rw [ak];with_reducible exact ad)|(have ad := (Option.bind_some _ _).symm.trans H;with_reducible exact ad)|with_reducible exact H|(rw [ak];exact H)|exact H
        have a9 := aK ak
        clear ak
        have H' := aK H
        clear H
        have an : 0 ≤ (aa : Int) := dA
        have ao : aa < (l0.length : Int) := dA
        obtain ⟨av,aC,ac⟩ := Kd.at_string aM.out aa an ao
        cases aC
        replace ac := xM HB ac
        replace an := eq_true an
        replace ao := eq_true ao
        have aG : 0 ≤ (aa : Int) := dA
        have aH : aa < (l0.length : Int) := dA
        obtain ⟨ba,bq,ar⟩ := Kd.at_string aM.out aa aG aH
        obtain rfl : av = ba := (by injection bq)
        replace ar := xM HB ar
        replace aG := eq_true aG
        replace aH := eq_true aH
        go_wp2_with (first|((with_reducible refine gate_builtin (b := .append) (xs := #[.tmp 35,.tmp 40]) rfl ?_);at_builtin;refine Kd.R_append Kd.string (w0 := w) w.heap.size rfl (.tmp 35) (.tmp 40) 31 9 (.string ⟨#[]⟩) 16 rfl Tryz.underlying31 info9 rfl (by decide) (by omega) u5 ab (rdOf ByteArray.empty l0 aa) [.string (rdOf ByteArray.empty l0 aa)] (fun _ => True) (fun _ => False) rfl rfl ?aP (fun _ hk => hk.elim) ?aF ?aO ?aB ?aS ?aL ?_;(case aP => exact rfl);(case aB => exact (bM HB.out));(case aF => exact (fun _ _ => trivial));(case aO => exact (rM ah.out));(case aS => exact (below_size (bM HB.out)));(case aL => have := a7.out;omega);intro bS bY ho hb hg hat;rw [← a9.out] at ho;replace HB := aK (hb);have bb := aK (ho);clear ho hb hg hat))
        go_roundg kj5
        case measure => have := aA.out;have := aN.out;omega
        case rel => exact ⟨(a8),(true),(wrap64 (aa + 1)),(by first|rfl|(simp;done)|(simp [*];done)),(by first|rfl|(simp;done)|(simp [*];done)),H',⟨by have := aA.out;have := aN.out;omega⟩,⟨rM bb.out⟩,⟨bM HB.out⟩⟩
      ·replace c9 := Bool.eq_false_iff.mpr c9
       subst c9
       rw [if_neg (show ¬ (false = true) by decide)] at H
       obtain ⟨bI,H⟩ := iS H
       have bJ := decide_eq_true bI
       clear bI
       obtain ⟨bK,H⟩ := iS H
       have bL := decide_eq_true bK
       clear bK
       obtain ⟨bN,H⟩ := iS H
       have bc := aK bN
       clear bN
       obtain ⟨bd,al⟩ : ∃ y_ : List ByteArray,y_ = (ab ++ [rdOf ByteArray.empty l0 aa]) := ⟨_,rfl⟩
       replace H : (r26_PutText.l0 kj5 l0 a1 bd ag (wrap64 (aa + 1))) = some r := by first|(rw [al];with_reducible exact H)|(have ad := (Option.bind_some _ _).symm.trans H;rw [al];with_reducible exact ad)|(have ad := (Option.bind_some _ _).symm.trans H;with_reducible exact ad)|with_reducible exact H|(rw [al];exact H)|exact H
       have be := aK al
       clear al
       have H' := aK H
       clear H
       have aI : 0 ≤ (aa : Int) := dA
       have aJ : aa < (l0.length : Int) := dA
       obtain ⟨bO,br,au⟩ := Kd.at_string aM.out aa aI aJ
       cases br
       replace au := xM HB au
       replace aI := eq_true aI
       replace aJ := eq_true aJ
       go_wp2_with (first|((with_reducible refine gate_builtin (b := .append) (xs := #[.tmp 35,.tmp 40]) rfl ?_);at_builtin;refine Kd.R_append Kd.string (w0 := w) w.heap.size rfl (.tmp 35) (.tmp 40) 31 9 (.string ⟨#[]⟩) 16 rfl Tryz.underlying31 info9 rfl (by decide) (by omega) u5 ab (rdOf ByteArray.empty l0 aa) [.string (rdOf ByteArray.empty l0 aa)] (fun _ => True) (fun _ => False) rfl rfl ?aP (fun _ hk => hk.elim) ?aF ?aO ?aB ?aS ?aL ?_;(case aP => exact rfl);(case aB => exact (bM HB.out));(case aF => exact (fun _ _ => trivial));(case aO => exact (rM ah.out));(case aS => exact (below_size (bM HB.out)));(case aL => have := bc.out;omega);intro bT bZ ho hb hg hat;rw [← be.out] at ho;replace HB := aK (hb);have bf := aK (ho);clear ho hb hg hat))
       go_roundg kj5
       case measure => have := aA.out;have := aN.out;omega
       case rel => exact ⟨(bd),(ag),(wrap64 (aa + 1)),(by first|rfl|(simp;done)|(simp [*];done)),(by first|rfl|(simp;done)|(simp [*];done)),H',⟨by have := aA.out;have := aN.out;omega⟩,⟨rM bf.out⟩,⟨bM HB.out⟩⟩
   ·rw [if_neg c5] at H
    have aV := decide_eq_false c5
    clear c5
    by_cases bj : ag = true
    ·subst bj
     rw [if_pos rfl] at H
     obtain rfl := Option.some.inj H
     go_wp2
     go_ret
     exact ⟨_,by first|rfl|(simp [errW_none,errW_some] <;> rfl)|(simp [*,errW_none,errW_some] <;> rfl),rM ah.out,bM HB.out⟩
    ·replace bj := Bool.eq_false_iff.mpr bj
     subst bj
     rw [if_neg (show ¬ (false = true) by decide)] at H
     by_cases bk : ab.length < 8796093022208
     ·rw [if_pos bk] at H
      have bg := aK bk
      clear bk
      obtain ⟨bs,am⟩ : ∃ y_ : List ByteArray,y_ = (ab ++ [a1]) := ⟨_,rfl⟩
      replace H : (some bs) = some r := by first|(rw [am];with_reducible exact H)|(have ad := (Option.bind_some _ _).symm.trans H;rw [am];with_reducible exact ad)|(have ad := (Option.bind_some _ _).symm.trans H;with_reducible exact ad)|with_reducible exact H|(rw [am];exact H)|exact H
      have bh := aK am
      clear am
      obtain rfl := Option.some.inj H
      go_wp2_with (first|((with_reducible refine gate_builtin (b := .append) (xs := #[.tmp 44,.tmp 46]) rfl ?_);at_builtin;refine Kd.R_append Kd.string (w0 := w) w.heap.size rfl (.tmp 44) (.tmp 46) 31 9 (.string ⟨#[]⟩) 16 rfl Tryz.underlying31 info9 rfl (by decide) (by omega) u5 ab a1 [.string a1] (fun _ => True) (fun _ => False) rfl rfl ?aP (fun _ hk => hk.elim) ?aF ?aO ?aB ?aS ?aL ?_;(case aP => exact rfl);(case aB => exact (bM HB.out));(case aF => exact (fun _ _ => trivial));(case aO => exact (rM ah.out));(case aS => exact (below_size (bM HB.out)));(case aL => have := bg.out;omega);intro bU b1 ho hb hg hat;rw [← bh.out] at ho;replace HB := aK (hb);have bi := aK (ho);clear ho hb hg hat))
      go_ret
      exact ⟨_,by first|rfl|(simp [errW_none,errW_some] <;> rfl)|(simp [*,errW_none,errW_some] <;> rfl),rM bi.out,bM HB.out⟩
     ·rw [if_neg bk] at H
      exact absurd H (by simp)

/-! ### r43_below: function 61 -/
mutual
def r43_below.l0 : Nat → List (S36) → List ByteArray → List ByteArray → Int → Option (List ByteArray)
|0,_,_,_,_ => none
|k + 1,x0,x1,x5,x6 => if x6 < (x1.length : Int) then (if 0 ≤ x6 then ((r43_at.f k x0 (rdOf ByteArray.empty x1 x6)).bind fun aa => (r43_below.l1 k x0 x1 x5 x6 aa 0)) else (none)) else (some x5)
def r43_below.l1 : Nat → List (S36) → List ByteArray → List ByteArray → Int → Int → Int → Option (List ByteArray)
|0,_,_,_,_,_,_ => none
|k + 1,x0,x1,x5,x6,x7,x8 => if x7 ≥ 0 then (if 0 ≤ x7 then (if x7 < (x0.length : Int) then (if x8 < (((rd_T36 x0 x7).f2).length : Int) then (if 0 ≤ x8 then ((r26_PutText.f k x5 (rdOf ByteArray.empty ((rd_T36 x0 x7).f2) x8)).bind fun aa => (r43_below.l1 k x0 x1 aa x6 x7 (wrap64 (x8 + 1)))) else (none)) else (r43_below.l0 k x0 x1 x5 (wrap64 (x6 + 1)))) else (none)) else (none)) else (r43_below.l0 k x0 x1 x5 (wrap64 (x6 + 1)))
end
def r43_below.f (k : Nat) (l0 : List (S36)) (l1 : List ByteArray) : Option (List ByteArray) := r43_below.l0 k l0 l1 l1 0
theorem r43_below.mono_l : ∀ k, (∀ y0 y1 y2 y3, LeO (r43_below.l0 k y0 y1 y2 y3) (r43_below.l0 (k + 1) y0 y1 y2 y3)) ∧ (∀ y0 y1 y2 y3 y4 y5, LeO (r43_below.l1 k y0 y1 y2 y3 y4 y5) (r43_below.l1 (k + 1) y0 y1 y2 y3 y4 y5))
|0 => ⟨fun _ _ _ _ r h => by simp [r43_below.l0] at h,fun _ _ _ _ _ _ r h => by simp [r43_below.l1] at h⟩
|k + 1 => by
  obtain ⟨ih0,ih1⟩ := r43_below.mono_l k
  refine ⟨?_,?_⟩
  ·intro y0 y1 y2 y3
   unfold r43_below.l0
   repeat' (with_reducible first|exact ih1 _ _ _ _ _ _|exact r43_at.mono _ _ _|exact LeO.refl _|exact LeO.none _|refine LeO.ite ?_ ?_|refine LeO.bind ?_ (fun _ => ?_))
  ·intro y0 y1 y2 y3 y4 y5
   unfold r43_below.l1
   repeat' (with_reducible first|exact ih0 _ _ _ _|exact ih1 _ _ _ _ _ _|exact r26_PutText.mono _ _ _|exact LeO.refl _|exact LeO.none _|refine LeO.ite ?_ ?_|refine LeO.bind ?_ (fun _ => ?_))
theorem r43_below.mono : ∀ a0 a1 k, LeO (r43_below.f k a0 a1) (r43_below.f (k + 1) a0 a1) := by
 intro a0 a1 k
 obtain ⟨ih0,ih1⟩ := r43_below.mono_l k
 unfold r43_below.f
 repeat' (with_reducible first|exact ih0 _ _ _ _|exact ih1 _ _ _ _ _ _|exact r26_PutText.mono _ _ _|exact r43_at.mono _ _ _|exact LeO.refl _|exact LeO.none _|refine LeO.ite ?_ ?_|refine LeO.bind ?_ (fun _ => ?_))
theorem r43_below.calls (k : Nat) (A0 : Option Addr) (c0 : Nat) (l0 : List (S36)) (aM : Nat → Prop) (A1 : Option Addr) (c1 : Nat) (l1 : List ByteArray) (r : List ByteArray) (w : World) (bn : Kd.C k36 w A0 l0.length l0) (bo : l0.length ≤ c0) (bv : Kd.V Kd.string 9 w w.heap.size (fun k_ => aM k_) (.slice A1 l1.length c1) l1) (h : r43_below.f k l0 l1 = some r) :
  Calls Tryz.prog 61 #[.slice A0 l0.length c0,.slice A1 l1.length c1] w fun e w' => ∃ bp : Value,e = .returned (bp) ∧ Kd.V Kd.string 9 w' w.heap.size (fun k_ => (aM k_ ∨ w.heap.size ≤ k_)) bp r ∧ Below w.heap.size w w' := by
 have a4 := aK bn
 have bx := aK bo
 clear bn bo
 have bq := aK (show Kd.V Kd.string 9 w w.heap.size (fun k_ => (aM k_ ∨ w.heap.size ≤ k_)) (.slice A1 l1.length c1) l1 from Kd.V_mono bv (fun k_ hk => .inl hk))
 have HB := aK (Below.refl w.heap.size w)
 have H : (r43_below.l0 k l0 l1 l1 0) = some r := h
 clear h
 have H' := aK H
 clear H
 go_enter Tryz.func61,Tryz.ntmps61
 go_wp2
 go_loopg [5,6] k (fun kq v5 v6 w' => ∃ (aB : List ByteArray) (ai : Int),v6 = .int .i64 ai ∧ Aside0 (r43_below.l0 kq l0 l1 aB ai = some r) ∧ Aside0 (kq ≤ k) ∧ Aside0 (Kd.V Kd.string 9 w' w.heap.size (fun k_ => (aM k_ ∨ w.heap.size ≤ k_)) (.slice A1 l1.length c1) l1) ∧ Aside0 (Kd.V Kd.string 9 w' w.heap.size (fun k_ => (aM k_ ∨ w.heap.size ≤ k_)) v5 aB) ∧ Aside0 (Below w.heap.size w w'))
 case atStart => exact ⟨(l1),(0),(by first|rfl|(simp;done)|(simp [*];done)),H',⟨Nat.le_refl _⟩,⟨vM bq.out⟩,⟨vM bq.out⟩,⟨bM HB.out⟩⟩
 case round =>
  clear H'
  try clear p2
  obtain ⟨aB,ai,rfl,HA,aW,an,aj,HB⟩ := hrel
  cases gk with
 |zero => exact absurd HA.out (by simp [r43_below.l0])
 |succ k1 =>
   have H := HA.out
   clear HA
   simp only [r43_below.l0] at H
   by_cases c3 : ai < (l1.length : Int)
   ·rw [if_pos c3] at H
    have aY := decide_eq_true c3
    clear c3
    obtain ⟨c4,H⟩ := iS H
    have a9 := decide_eq_true c4
    clear c4
    replace H := Option.bind_eq_some_iff.mp H
    obtain ⟨ac,br,H⟩ := H
    have A5 := aK br
    clear br
    have H' := aK H
    clear H
    have aC : 0 ≤ (ai : Int) := dA
    have aD : ai < (l1.length : Int) := dA
    obtain ⟨aZ,ba,aE⟩ := Kd.at_string (Kd.V_reads' an.out).2.2 ai aC aD
    cases ba
    replace aC := eq_true aC
    replace aD := eq_true aD
    go_wp2_with (first|((with_reducible refine gate_callee (f := 36) rfl ?_);refine gL 21 Tryz.func36 #[.slice A0 l0.length c0,.string (rdOf ByteArray.empty l1 ai)] ?_;(with_reducible refine (r43_at.calls k1 _ _ l0 (rdOf ByteArray.empty l1 ai) ac _ ?az ?aA A5.out).mono ?_);(case az => exact cM (Kd.C_below a4.out HB.out));(case aA => exact bx.out);rintro e w' ⟨rfl,⟨nd,rfl⟩⟩;refine ⟨_,rfl,?_⟩))
    go_loopg [5,8] k1 (fun kq v5 v8 w' => ∃ (ao : List ByteArray) (ak : Int),v8 = .int .i64 ak ∧ Aside0 (r43_below.l1 kq l0 l1 ao ai ac ak = some r) ∧ Aside0 (kq ≤ k1) ∧ Aside0 (Kd.V Kd.string 9 w' w.heap.size (fun k_ => (aM k_ ∨ w.heap.size ≤ k_)) (.slice (some aZ) l1.length c1) l1) ∧ Aside0 (Kd.V Kd.string 9 w' w.heap.size (fun k_ => (aM k_ ∨ w.heap.size ≤ k_)) v5 ao) ∧ Aside0 (Below w.heap.size w w'))
    case atStart => exact ⟨(aB),(0),(by first|rfl|(simp;done)|(simp [*];done)),H',⟨Nat.le_refl _⟩,⟨vM an.out⟩,⟨vM aj.out⟩,⟨bM HB.out⟩⟩
    case round =>
     clear H'
     try clear p2
     try clear c3
     try clear aY
     try clear p3
     try clear q3
     try clear hx3
     try clear c4
     try clear a9
     try clear aE
     try clear p2
     try clear aC
     try clear aD
     obtain ⟨ao,ak,rfl,HA,aX,an,aj,HB⟩ := hrel
     cases gk with
    |zero => exact absurd HA.out (by simp [r43_below.l1])
    |succ k2 =>
      have H := HA.out
      clear HA
      simp only [r43_below.l1] at H
      by_cases c6 : ac ≥ 0
      ·rw [if_pos c6] at H
       have bb := decide_eq_true c6
       clear c6
       obtain ⟨c7,H⟩ := iS H
       have bz := decide_eq_true c7
       clear c7
       obtain ⟨c8,H⟩ := iS H
       have bB := decide_eq_true c8
       clear c8
       by_cases c9 : ak < (((rd_T36 l0 ac).f2).length : Int)
       ·rw [if_pos c9] at H
        have bc := decide_eq_true c9
        clear c9
        obtain ⟨c10,H⟩ := iS H
        have bs := decide_eq_true c10
        clear c10
        replace H := Option.bind_eq_some_iff.mp H
        obtain ⟨a0,a1,H⟩ := H
        have bC := aK a1
        clear a1
        have H' := aK H
        clear H
        have ap : 0 ≤ (ac : Int) := dA
        have aq : ac < (l0.length : Int) := dA
        obtain ⟨aL,aN,aO,aP,aQ,aR,ad,aa,ab,ae,af,ag,ah⟩ := at_T36 a4.out ac ap aq
        cases aR
        replace ad := xM HB ad
        replace aa := xM HB aa
        replace ab := xM HB ab
        have aF := aK af
        have aG := aK ae
        clear af ae
        have aH := aK ah
        have aI := aK ag
        clear ah ag
        replace ap := eq_true ap
        replace aq := eq_true aq
        have aS : 0 ≤ (ac : Int) := dA
        have aT : ac < (l0.length : Int) := dA
        obtain ⟨a2,bd,be,bf,bg,bh,ar,al,am,au,av,aw,ax⟩ := at_T36 a4.out ac aS aT
        obtain rfl : aL = a2 := (by injection bh)
        replace ar := xM HB ar
        replace al := xM HB al
        replace am := xM HB am
        have a5 := aK av
        have a6 := aK au
        clear av au
        have aJ := aK ax
        have a7 := aK aw
        clear ax aw
        replace aS := eq_true aS
        replace aT := eq_true aT
        have ea_ := Option.some.inj (aa.symm.trans al)
        injection ea_ with ea_ en_ ec_
        subst ea_
        subst ec_
        clear en_
        have ea_ := Option.some.inj (ab.symm.trans am)
        injection ea_ with ea_ en_ ec_
        subst ea_
        subst ec_
        clear en_
        have aU : 0 ≤ (ak : Int) := dA
        have aV : ak < (((rd_T36 l0 ac).f2).length : Int) := dA
        obtain ⟨bu,bi,ay⟩ := Kd.at_string aJ.out ak aU aV
        cases bi
        replace ay := xM HB ay
        replace aU := eq_true aU
        replace aV := eq_true aV
        obtain ⟨bj,bk,bm⟩ := Kd.V_slice aj.out
        subst bm
        go_wp2_with (first|((with_reducible refine gate_callee (f := 46) rfl ?_);refine gL 45 Tryz.func46 #[.slice bj ao.length bk,.string (rdOf ByteArray.empty ((rd_T36 l0 ac).f2) ak)] ?_;(with_reducible refine (r26_PutText.calls k2 _ _ ao (rdOf ByteArray.empty ((rd_T36 l0 ac).f2) ak) a0 _ ?az ?aA bC.out).mono ?_);(case az => exact cM (Kd.V_reads' aj.out).2.2);(case aA => exact (Kd.V_reads' aj.out).2.1);rintro e bE ⟨bD,rfl,a8,hb⟩;refine ⟨_,rfl,?_⟩;replace an := aK (Kd.V_elder' (vM an.out) (Kd.R_base a8) hb);replace aj := aK (Kd.V_elder' (vM aj.out) (Kd.R_base a8) hb);have a3 := aK (Kd.R_lower (Kd.R_newM (M := fun k_ => (w.heap.size ≤ k_)) a8 (below_size (bM HB.out)) (fun k_ h_ => h_)) (below_size (bM HB.out)));replace HB := aK (below_step (bM HB.out) hb);(try clear hb);(try clear hk);(try clear a8)))
        go_roundg k2
        case measure => have := aW.out;have := aX.out;omega
        case rel => exact ⟨(a0),(wrap64 (ak + 1)),(by first|rfl|(simp;done)|(simp [*];done)),H',⟨by have := aW.out;have := aX.out;omega⟩,⟨by (with_reducible repeat (first|apply Kd.V_alloc|apply Kd.V_drewN|apply Kd.V_drew));exact Kd.V_mono an.out (fun _ hk => hk.1)⟩,⟨Kd.V_mono (Kd.R_V (by (with_reducible repeat (first|apply Kd.R_alloc|apply Kd.R_drewN|apply Kd.R_drew));exact Kd.R_mono a3.out (fun _ hk => hk.1))) (fun k_ hk => by first|exact ⟨(.inr (hk.1)),hk.2⟩|exact (.inr (hk)))⟩,⟨bM HB.out⟩⟩
       ·rw [if_neg c9] at H
        have bc := decide_eq_false c9
        clear c9
        have H' := aK H
        clear H
        have ap : 0 ≤ (ac : Int) := dA
        have aq : ac < (l0.length : Int) := dA
        obtain ⟨aL,aN,aO,aP,aQ,aR,ad,aa,ab,ae,af,ag,ah⟩ := at_T36 a4.out ac ap aq
        cases aR
        replace ad := xM HB ad
        replace aa := xM HB aa
        replace ab := xM HB ab
        have aF := aK af
        have aG := aK ae
        clear af ae
        have aH := aK ah
        have aI := aK ag
        clear ah ag
        replace ap := eq_true ap
        replace aq := eq_true aq
        go_wp2
        go_roundg k2
        case measure => have := aW.out;have := aX.out;omega
        case rel => exact ⟨(ao),(wrap64 (ai + 1)),(by first|rfl|(simp;done)|(simp [*];done)),H',⟨by have := aW.out;have := aX.out;omega⟩,⟨vM an.out⟩,⟨vM aj.out⟩,⟨bM HB.out⟩⟩
      ·rw [if_neg c6] at H
       have bb := decide_eq_false c6
       clear c6
       have H' := aK H
       clear H
       go_wp2
       go_roundg k2
       case measure => have := aW.out;have := aX.out;omega
       case rel => exact ⟨(ao),(wrap64 (ai + 1)),(by first|rfl|(simp;done)|(simp [*];done)),H',⟨by have := aW.out;have := aX.out;omega⟩,⟨vM an.out⟩,⟨vM aj.out⟩,⟨bM HB.out⟩⟩
   ·rw [if_neg c3] at H
    have aY := decide_eq_false c3
    clear c3
    obtain rfl := Option.some.inj H
    go_wp2
    go_ret
    exact ⟨_,by first|rfl|(simp [errW_none,errW_some] <;> rfl)|(simp [*,errW_none,errW_some] <;> rfl),vM aj.out,bM HB.out⟩
end Go.Proofs.YtobdkgoapcbipaaGreatDoor.J
