import Derived.Test.YtmgliocboeifdaaGreatDoorFx0
import Derived.Test.YtmgliocboeifdaaGreatDoorFx19
import Derived.Test.YtmgliocboeifdaaGreatDoorFx22
namespace Go.Proofs.YtmgliocboeifdaaGreatDoor.F
open Go.RowKit Go.Proofs.YtmgliocboeifdaaGreatDoorW.PrintWords Go.Proofs.YtmgliocboeifdaaGreatDoorW.PrintLast Go.Proofs.YtmgliocboeifdaaGreatDoorW.PrintMore
attribute [local go_sem] max2_int min2_int max_two min_two max_three min_three max_four min_four
set_option linter.unusedVariables false
set_option linter.unusedSimpArgs false
mutual
def r33_Write.l0 : Nat → List (S30) → List Int → Int → Option (List Int)
|0,_,_,_ => none
|k + 1,x0,x3,x4 => if x4 < (x0.length : Int) then (if 0 ≤ x4 then ((r33_Encode.f k ((rd_T30 x0 x4).f0) ((rd_T30 x0 x4).f1) ((rd_T30 x0 x4).f2) ((rd_T30 x0 x4).f3) ((rd_T30 x0 x4).f4) ((rd_T30 x0 x4).f5)).bind fun aa => ((r04_Seal.f k aa).bind fun ab => (r33_Write.l1 k x0 x3 x4 ab 0))) else (none)) else (some x3)
def r33_Write.l1 : Nat → List (S30) → List Int → Int → List Int → Int → Option (List Int)
|0,_,_,_,_,_ => none
|k + 1,x0,x3,x4,x5,x6 => if x6 < (x5.length : Int) then (if 0 ≤ x6 then (if x3.length < 140737488355328 then (r33_Write.l1 k x0 (x3 ++ [rd x5 x6]) x4 x5 (wrap64 (x6 + 1))) else (none)) else (none)) else (r33_Write.l0 k x0 x3 (wrap64 (x4 + 1)))
end
def r33_Write.f (k : Nat) (l0 : List (S30)) : Option (List Int) := r33_Write.l0 k l0 ([] : List Int) 0
theorem r33_Write.mono_l : ∀ k, (∀ y0 y1 y2, LeO (r33_Write.l0 k y0 y1 y2) (r33_Write.l0 (k + 1) y0 y1 y2)) ∧ (∀ y0 y1 y2 y3 y4, LeO (r33_Write.l1 k y0 y1 y2 y3 y4) (r33_Write.l1 (k + 1) y0 y1 y2 y3 y4))
|0 => ⟨fun _ _ _ r h => by simp [r33_Write.l0] at h,fun _ _ _ _ _ r h => by simp [r33_Write.l1] at h⟩
|k + 1 => by
  obtain ⟨ih0,ih1⟩ := r33_Write.mono_l k
  refine ⟨?_,?_⟩
  ·intro y0 y1 y2
   unfold r33_Write.l0
   repeat' (with_reducible first|exact ih1 _ _ _ _ _|exact r04_Seal.mono _ _|exact r33_Encode.mono _ _ _ _ _ _ _|exact LeO.refl _|exact LeO.none _|refine LeO.ite ?_ ?_|refine LeO.bind ?_ (fun _ => ?_))
  ·intro y0 y1 y2 y3 y4
   unfold r33_Write.l1
   repeat' (with_reducible first|exact ih0 _ _ _|exact ih1 _ _ _ _ _|exact LeO.refl _|exact LeO.none _|refine LeO.ite ?_ ?_|refine LeO.bind ?_ (fun _ => ?_))
theorem r33_Write.mono : ∀ a0 k, LeO (r33_Write.f k a0) (r33_Write.f (k + 1) a0) := by
 intro a0 k
 obtain ⟨ih0,ih1⟩ := r33_Write.mono_l k
 unfold r33_Write.f
 repeat' (with_reducible first|exact ih0 _ _ _|exact ih1 _ _ _ _ _|exact r04_Seal.mono _ _|exact r33_Encode.mono _ _ _ _ _ _ _|exact LeO.refl _|exact LeO.none _|refine LeO.ite ?_ ?_|refine LeO.bind ?_ (fun _ => ?_))
set_option maxHeartbeats 4000000 in
set_option maxRecDepth 100000 in
theorem r33_Write.calls (k : Nat) (A0 : Option Addr) (c0 : Nat) (l0 : List (S30)) (r : List Int) (w : World) (bm : Kd.C k30 w A0 l0.length l0) (bn : l0.length ≤ c0) (h : r33_Write.f k l0 = some r) :
  Calls Tryz.prog 18 #[.slice A0 l0.length c0] w fun e w' => ∃ bo : Value,e = .returned (bo) ∧ Kd.R (Kd.int .u8) 5 w' w.heap.size (fun _ => True) bo r ∧ Below w.heap.size w w' := by
 have bv := Tryz.underlying30
 have bx := aK bm
 have bJ := aK bn
 clear bm bn
 have HB := aK (Below.refl w.heap.size w)
 have H : (r33_Write.l0 k l0 ([] : List Int) 0) = some r := h
 clear h
 have H' := aK H
 clear H
 go_enter Tryz.func18,Tryz.ntmps18
 go_wp2
 go_loopg [3,4] k (fun kq v3 v4 w' => ∃ (ay : List Int) (aa : Int),v4 = .int .i64 aa ∧ Aside0 (r33_Write.l0 kq l0 ay aa = some r) ∧ Aside0 (kq ≤ k) ∧ Aside0 (Kd.R (Kd.int .u8) 5 w' w.heap.size (fun _ => True) v3 ay) ∧ Aside0 (Below w.heap.size w w'))
 case atStart => exact ⟨(([] : List Int)),(0),(by first|rfl|(simp;done)|(simp [*];done)),H',⟨Nat.le_refl _⟩,⟨by first|exact Kd.R_nil _ _ _ _ _|exact Kd.N_nil _ _ _ _ _|exact Kd.V_nil _ _ _ _ _|exact Kd.Q_nil _ _ _ _ _|exact Kd.S_nil _ _ _ _ _⟩,⟨bM HB.out⟩⟩
 case round =>
  clear H'
  obtain ⟨ay,aa,rfl,HA,ba,ac,HB⟩ := hrel
  cases gk with
 |zero => exact absurd HA.out (by simp [r33_Write.l0])
 |succ k1 =>
   have H := HA.out
   clear HA
   simp only [r33_Write.l0] at H
   by_cases c2 : aa < (l0.length : Int)
   ·rw [if_pos c2] at H
    have aY := decide_eq_true c2
    clear c2
    obtain ⟨c3,H⟩ := iS H
    have bd := decide_eq_true c3
    clear c3
    replace H := Option.bind_eq_some_iff.mp H
    obtain ⟨aJ,bp,H⟩ := H
    have A4 := aK bp
    clear bp
    replace H := Option.bind_eq_some_iff.mp H
    obtain ⟨ad,bq,H⟩ := H
    have A5 := aK bq
    clear bq
    have H' := aK H
    clear H
    have az : 0 ≤ (aa : Int) := dA
    have aA : aa < (l0.length : Int) := dA
    obtain ⟨br,aM,aN,aQ,aR,aT,aU,be,ae,af,ag,ah,ai,aj,am,an,ao,ap,aq,ar⟩ := at_T30 bx.out aa az aA
    cases be
    replace ae := xM HB ae
    replace af := xM HB af
    replace ag := xM HB ag
    replace ah := xM HB ah
    replace ai := xM HB ai
    replace aj := xM HB aj
    have aC := aK an
    have aD := aK am
    clear an am
    have aE := aK ap
    have aG := aK ao
    clear ap ao
    have aH := aK ar
    have aI := aK aq
    clear ar aq
    replace az := eq_true az
    replace aA := eq_true aA
    go_wp2_with (first|((with_reducible refine gate_callee (f := 13) rfl ?_);refine gL 17 Tryz.func13 #[.agg #[.int .i64 ((rd_T30 l0 aa).f0),.int .i64 ((rd_T30 l0 aa).f1),.int .i64 ((rd_T30 l0 aa).f2),.slice aM ((rd_T30 l0 aa).f3).length aN,.slice aQ ((rd_T30 l0 aa).f4).length aR,.slice aT ((rd_T30 l0 aa).f5).length aU]] ?_;(with_reducible refine (r33_Encode.calls k1 ((rd_T30 l0 aa).f0) ((rd_T30 l0 aa).f1) ((rd_T30 l0 aa).f2) _ _ ((rd_T30 l0 aa).f3) _ _ ((rd_T30 l0 aa).f4) _ _ ((rd_T30 l0 aa).f5) aJ _ ?aw ?ax ?aZ ?a0 ?a1 ?a2 A4.out).mono ?_);(case aw => exact cM (Kd.C_below aC.out HB.out));(case ax => exact aD.out);(case aZ => exact cM (Kd.C_below aE.out HB.out));(case a0 => exact aG.out);(case a1 => exact cM (Kd.C_below aH.out HB.out));(case a2 => exact aI.out);rintro e w6 ⟨bz,rfl,aV,hb⟩;refine ⟨_,rfl,?_⟩;have au := aK (Kd.R_lower (Kd.R_new' aV (Kd.R_lt (rM ac.out))) (below_size (bM HB.out)));replace ac := aK (Kd.R_elder' (rM ac.out) (Kd.R_base aV) hb);replace HB := aK (below_step (bM HB.out) hb);(try clear hb);(try clear hk);(try clear aV);obtain ⟨bB,bC,bD⟩ := Kd.R_slice au.out;subst bD)|((with_reducible refine gate_callee (f := 50) rfl ?_);refine gL 18 Tryz.func50 #[.slice bB aJ.length bC] ?_;(with_reducible refine (r04_Seal.calls k1 _ _ aJ ad _ ?aw ?ax A5.out).mono ?_);(case aw => exact cM (Kd.R_reads' au.out).2.2);(case ax => exact (Kd.R_reads' au.out).2.1);rintro e w8 ⟨a3,rfl,aV,hb⟩;refine ⟨_,rfl,?_⟩;have a4 := aK (Kd.R_lower (Kd.R_new' (Kd.R_new' aV (Kd.R_lt (rM ac.out))) (Kd.R_lt (rM au.out))) (below_size (bM HB.out)));replace ac := aK (Kd.R_elder' (rM ac.out) (Kd.R_base aV) hb);replace HB := aK (below_step (bM HB.out) hb);(try clear hb);(try clear hk);(try clear aV)))
    go_loopg [3,6] k1 (fun kq v3 v6 w' => ∃ (av : List Int) (ab : Int),v6 = .int .i64 ab ∧ Aside0 (r33_Write.l1 kq l0 av aa ad ab = some r) ∧ Aside0 (kq ≤ k1) ∧ Aside0 (Kd.R (Kd.int .u8) 5 w' w.heap.size (fun k_ => some k_ ≠ (a3 : Value).ownBlock) v3 av) ∧ Aside0 (Kd.R (Kd.int .u8) 5 w' w.heap.size (fun k_ => some k_ ≠ (v3 : Value).ownBlock) a3 ad) ∧ Aside0 (Below w.heap.size w w'))
    case atStart => exact ⟨(ay),(0),(by first|rfl|(simp;done)|(simp [*];done)),H',⟨Nat.le_refl _⟩,⟨by refine rO ?_;exact Kd.R_mono ac.out (fun _ hk => hk.2)⟩,⟨by refine rO ?_;exact Kd.R_mono a4.out (fun _ hk => hk.1.2)⟩,⟨bM HB.out⟩⟩
    case round =>
     clear H'
     try clear c2
     try clear aY
     try clear p2
     try clear c3
     try clear bd
     try clear p6
     try clear q6
     try clear hx6
     try clear ae
     try clear af
     try clear ag
     try clear ah
     try clear ai
     try clear aj
     try clear az
     try clear aA
     obtain ⟨av,ab,rfl,HA,bb,ac,al,HB⟩ := hrel
     cases gk with
    |zero => exact absurd HA.out (by simp [r33_Write.l1])
    |succ k2 =>
      have H := HA.out
      clear HA
      simp only [r33_Write.l1] at H
      by_cases c9 : ab < (ad.length : Int)
      ·rw [if_pos c9] at H
       have bf := decide_eq_true c9
       clear c9
       obtain ⟨c10,H⟩ := iS H
       have bs := decide_eq_true c10
       clear c10
       obtain ⟨bu,H⟩ := iS H
       have a5 := aK bu
       clear bu
       obtain ⟨a6,ak⟩ : ∃ y_ : List Int,y_ = (av ++ [rd ad ab]) := ⟨_,rfl⟩
       replace H : (r33_Write.l1 k2 l0 a6 aa ad (wrap64 (ab + 1))) = some r := by first|(rw [ak];with_reducible exact H)|(have bg := (Option.bind_some _ _).symm.trans H;rw [ak];with_reducible exact bg)|(have bg := (Option.bind_some _ _).symm.trans H;with_reducible exact bg)|with_reducible exact H|(rw [ak];exact H)|exact H
       have a7 := aK ak
       clear ak
       have H' := aK H
       clear H
       obtain ⟨bE,bh,bi⟩ := Kd.R_slice al.out
       subst bi
       have aW : 0 ≤ (ab : Int) := dA
       have aX : ab < (ad.length : Int) := dA
       obtain ⟨a8,bj,bc⟩ := Kd.at_int (Kd.R_reads' al.out).2.2 ab aW aX
       cases bj
       replace aW := eq_true aW
       replace aX := eq_true aX
       go_wp2_with (first|((with_reducible refine gate_builtin (b := .append) (xs := #[.tmp 25,.tmp 30]) rfl ?_);at_builtin;refine Kd.R_append (Kd.int .u8) (w0 := w) w.heap.size rfl (.tmp 25) (.tmp 30) 31 5 (.int .u8 0) 1 rfl Tryz.underlying31 info5 rfl (by decide) (by omega) u3 av (rd ad ab) [.int .u8 (rd ad ab)] (fun k_ => some k_ ≠ (.slice (some a8) ad.length bh : Value).ownBlock) (fun _ => False) rfl rfl ?aP (fun _ hk => hk.elim) ?aF ?aO ?aB ?aS ?aL ?_;(case aP => exact rfl);(case aB => exact (bM HB.out));(case aF => exact (fun k_ hk => Kd.fresh' (Kd.R_lt (rM al.out)) k_ hk));(case aO => exact (rM ac.out));(case aS => exact (below_size (bM HB.out)));(case aL => have := a5.out;omega);intro bF bK ho hb hg hat;rw [← a7.out] at ho;replace al := aK (Kd.R_after (ok := (fun _ => True)) (by (with_reducible repeat (first|apply Kd.R_alloc|apply Kd.R_drewN|apply Kd.R_drew));exact Kd.R_mono al.out (fun _ hk => ⟨trivial,hk⟩)) hg hat);replace HB := aK (hb);have a9 := aK (ho);clear ho hb hg hat))
       go_roundg k2
       case measure => have := ba.out;have := bb.out;omega
       case rel => exact ⟨(a6),(wrap64 (ab + 1)),(by first|rfl|(simp;done)|(simp [*];done)),H',⟨by have := ba.out;have := bb.out;omega⟩,⟨rM a9.out⟩,⟨by refine rO ?_;exact Kd.R_mono al.out (fun _ hk => hk.2)⟩,⟨bM HB.out⟩⟩
      ·rw [if_neg c9] at H
       have bf := decide_eq_false c9
       clear c9
       have H' := aK H
       clear H
       obtain ⟨bH,bI,bk⟩ := Kd.R_slice al.out
       subst bk
       go_wp2
       go_roundg k2
       case measure => have := ba.out;have := bb.out;omega
       case rel => exact ⟨(av),(wrap64 (aa + 1)),(by first|rfl|(simp;done)|(simp [*];done)),H',⟨by have := ba.out;have := bb.out;omega⟩,⟨rM (Kd.R_mono ac.out (fun _ hk => trivial))⟩,⟨bM HB.out⟩⟩
   ·rw [if_neg c2] at H
    have aY := decide_eq_false c2
    clear c2
    obtain rfl := Option.some.inj H
    go_wp2
    go_ret
    exact ⟨_,by first|rfl|(simp [errW_none,errW_some] <;> rfl)|(simp [*,errW_none,errW_some] <;> rfl),rM ac.out,bM HB.out⟩
end Go.Proofs.YtmgliocboeifdaaGreatDoor.F
