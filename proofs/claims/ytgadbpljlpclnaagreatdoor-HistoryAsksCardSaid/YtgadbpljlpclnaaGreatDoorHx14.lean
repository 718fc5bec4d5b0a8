import Derived.Test.YtgadbpljlpclnaaGreatDoorHx0
import Derived.Test.YtgadbpljlpclnaaGreatDoorHx2
import Derived.Test.YtgadbpljlpclnaaGreatDoorHx6
import Derived.Test.YtgadbpljlpclnaaGreatDoorHx12
namespace Go.Proofs.YtgadbpljlpclnaaGreatDoor.H
open Go.RowKit Go.Proofs.YtgadbpljlpclnaaGreatDoorW.PrintWords Go.Proofs.YtgadbpljlpclnaaGreatDoorW.PrintLast Go.Proofs.YtgadbpljlpclnaaGreatDoorW.PrintMore
set_option maxHeartbeats 4000000
set_option maxRecDepth 100000
attribute [local go_sem] max2_int min2_int max_two min_two max_three min_three max_four min_four
set_option linter.unusedVariables false
set_option linter.unusedSimpArgs false

attribute [local go_sem high] eqA55
/-! ### history_Tree: function 18 -/
mutual
def history_Tree.j2 : Nat → List (S28) → Option ((List (S55)) × Int)
|0,_ => none
|k + 1,x8 => history_Tree.l1 k x8 ([] : List (S55)) (wrap64 ((x8.length : Int) - 1))
def history_Tree.l1 : Nat → List (S28) → List (S55) → Int → Option ((List (S55)) × Int)
|0,_,_,_ => none
|k + 1,x8,ac,ab => if ab ≥ 0 then (if 0 ≤ ab then (if ab < (x8.length : Int) then ((tree_Apply.f k ac ((rd_T28 x8 ab).f2)).bind fun aa => (if aa.2 = 0 then (history_Tree.l1 k x8 aa.1 (wrap64 (ab - 1))) else (some (([] : List (S55)),aa.2)))) else (none)) else (none)) else (some (ac,0))
def history_Tree.l0 : Nat → List (S28) → Bool → List (S28) → Int → Int → List Int → List (S53) → Int → Int → Option ((List (S55)) × Int)
|0,_,_,_,_,_,_,_,_,_ => none
|k + 1,x0,x7,x8,x9,aa,ab,ac,ad,ae => if x7 = true then (history_Tree.j1 k x0 x8 x9 (decide (x9 ≥ 0)) aa ab ac ad ae) else (history_Tree.j1 k x0 x8 x9 false aa ab ac ad ae)
def history_Tree.j1 : Nat → List (S28) → List (S28) → Int → Bool → Int → List Int → List (S53) → Int → Int → Option ((List (S55)) × Int)
|0,_,_,_,_,_,_,_,_,_ => none
|k + 1,x0,x8,x9,ah,ac,aa,ad,ae,af => if ah = true then (if x8.length < 1954687338268 then ((some (x8 ++ [(⟨ac,aa,ad,ae,af⟩ : S28)] : List (S28))).bind fun ag => (if (aa.length : Int) = 0 then (history_Tree.j2 k ag) else (if 0 < (aa.length : Int) then ((history_Get.f k x0 (rd aa 0)).bind fun ab => (history_Tree.l0 k x0 ab.2.2.2.2.2 ag (wrap64 (x9 - 1)) ab.1 ab.2.1 ab.2.2.1 ab.2.2.2.1 ab.2.2.2.2.1)) else (none)))) else (none)) else (history_Tree.j2 k x8)
end
def history_Tree.f (k : Nat) (l0 : List (S28)) (a1 : Int) : Option ((List (S55)) × Int) := if a1 = 0 then (some (([] : List (S55)), 0)) else ((history_Get.f k l0 a1).bind fun aa => (if aa.2.2.2.2.2 = true then (history_Tree.l0 k l0 aa.2.2.2.2.2 ([] : List (S28)) (l0.length : Int) aa.1 aa.2.1 aa.2.2.1 aa.2.2.2.1 aa.2.2.2.2.1) else (some (([] : List (S55)), 8))))
theorem history_Tree.mono_l : ∀ k, (∀ y0, LeO (history_Tree.j2 k y0) (history_Tree.j2 (k + 1) y0)) ∧ (∀ y0 y1 y2, LeO (history_Tree.l1 k y0 y1 y2) (history_Tree.l1 (k + 1) y0 y1 y2)) ∧ (∀ y0 y1 y2 y3 y4 y5 y6 y7 y8, LeO (history_Tree.l0 k y0 y1 y2 y3 y4 y5 y6 y7 y8) (history_Tree.l0 (k + 1) y0 y1 y2 y3 y4 y5 y6 y7 y8)) ∧ (∀ y0 y1 y2 y3 y4 y5 y6 y7 y8, LeO (history_Tree.j1 k y0 y1 y2 y3 y4 y5 y6 y7 y8) (history_Tree.j1 (k + 1) y0 y1 y2 y3 y4 y5 y6 y7 y8))
|0 => ⟨fun _ r h => by simp [history_Tree.j2] at h,fun _ _ _ r h => by simp [history_Tree.l1] at h,fun _ _ _ _ _ _ _ _ _ r h => by simp [history_Tree.l0] at h,fun _ _ _ _ _ _ _ _ _ r h => by simp [history_Tree.j1] at h⟩
|k + 1 => by
  obtain ⟨ih0,ih1,ih2,ih3⟩ := history_Tree.mono_l k
  refine ⟨?_,?_,?_,?_⟩
  ·intro y0
   unfold history_Tree.j2
   repeat' (with_reducible first|exact ih1 _ _ _|exact LeO.refl _|exact LeO.none _|refine LeO.ite ?_ ?_|refine LeO.bind ?_ (fun _ => ?_))
  ·intro y0 y1 y2
   unfold history_Tree.l1
   repeat' (with_reducible first|exact ih1 _ _ _|exact tree_Apply.mono _ _ _|exact LeO.refl _|exact LeO.none _|refine LeO.ite ?_ ?_|refine LeO.bind ?_ (fun _ => ?_))
  ·intro y0 y1 y2 y3 y4 y5 y6 y7 y8
   unfold history_Tree.l0
   repeat' (with_reducible first|exact ih3 _ _ _ _ _ _ _ _ _|exact LeO.refl _|exact LeO.none _|refine LeO.ite ?_ ?_|refine LeO.bind ?_ (fun _ => ?_))
  ·intro y0 y1 y2 y3 y4 y5 y6 y7 y8
   unfold history_Tree.j1
   repeat' (with_reducible first|exact ih0 _|exact ih2 _ _ _ _ _ _ _ _ _|exact history_Get.mono _ _ _|exact LeO.refl _|exact LeO.none _|refine LeO.ite ?_ ?_|refine LeO.bind ?_ (fun _ => ?_))
theorem history_Tree.mono : ∀ a0 a1 k, LeO (history_Tree.f k a0 a1) (history_Tree.f (k + 1) a0 a1) := by
 intro a0 a1 k
 obtain ⟨ih0,ih1,ih2,ih3⟩ := history_Tree.mono_l k
 unfold history_Tree.f
 repeat' (with_reducible first|exact ih0 _|exact ih1 _ _ _|exact ih2 _ _ _ _ _ _ _ _ _|exact ih3 _ _ _ _ _ _ _ _ _|exact history_Get.mono _ _ _|exact tree_Apply.mono _ _ _|exact LeO.refl _|exact LeO.none _|refine LeO.ite ?_ ?_|refine LeO.bind ?_ (fun _ => ?_))
theorem history_Tree.calls (k : Nat) (A0 : Option Addr) (c0 : Nat) (l0 : List (S28)) (a1 : Int) (r1 : List (S55)) (r2 : Int) (w : World) (ds : Kd.C k28 w A0 l0.length l0) (dt : l0.length ≤ c0) (h : history_Tree.f k l0 a1 = some (r1, r2)) :
  Calls Tryz.prog 18 #[.slice A0 l0.length c0,.int .i64 a1] w fun e w' => ∃ du : Value,e = .returned (.tuple #[du,.int .i64 r2]) ∧ Kd.R k55 55 w' w.heap.size (fun _ => True) du r1 ∧ Below w.heap.size w w' := by
 have dK := Tryz.underlying28
 have cT := aK ds
 have cU := aK dt
 clear ds dt
 have HB := aK (Below.refl w.heap.size w)
 have H : (if a1 = 0 then (some (([] : List (S55)),0)) else ((history_Get.f k l0 a1).bind fun aU => (if aU.2.2.2.2.2 = true then (history_Tree.l0 k l0 aU.2.2.2.2.2 ([] : List (S28)) (l0.length : Int) aU.1 aU.2.1 aU.2.2.1 aU.2.2.2.1 aU.2.2.2.2.1) else (some (([] : List (S55)),8))))) = some (r1,r2) := h
 clear h
 by_cases c3 : a1 = 0
 ·rw [if_pos c3] at H
  have cB := beq_iff_eq.mpr c3
  have cC := bne_eq_false_iff_eq.mpr c3
  clear c3
  simp only [Option.some.injEq,Prod.mk.injEq] at H
  obtain ⟨rfl,rfl⟩ := H
  go_enter Tryz.func18,Tryz.ntmps18
  go_wp2
  go_ret2
  exact ⟨_,by first|rfl|(simp [errW_none,errW_some] <;> rfl)|(simp [*,errW_none,errW_some] <;> rfl),by first|exact Kd.R_nil _ _ _ _ _|exact Kd.N_nil _ _ _ _ _|exact Kd.V_nil _ _ _ _ _|exact Kd.Q_nil _ _ _ _ _|exact Kd.S_nil _ _ _ _ _,bM HB.out⟩
 ·rw [if_neg c3] at H
  have cB := beq_eq_false_iff_ne.mpr c3
  have cC := bne_iff_ne.mpr c3
  replace H := Option.bind_eq_some_iff.mp H
  obtain ⟨⟨aW,aX,a3,bk,bx,cd⟩,dv,H⟩ := H
  replace H : (if cd = true then (history_Tree.l0 k l0 cd ([] : List (S28)) (l0.length : Int) aW aX a3 bk bx) else (some (([] : List (S55)),8))) = some (r1,r2) := H
  have A4 := aK dv
  clear dv
  by_cases c5 : cd = true
  ·subst c5
   rw [if_pos rfl] at H
   have cV := aK H
   clear H
   go_enter Tryz.func18,Tryz.ntmps18
   go_upto_block 0 with (first|((with_reducible refine gate_callee (f := 12) rfl ?_);refine gL 19 Tryz.func12 #[.slice A0 l0.length c0,.int .i64 a1] ?_;(with_reducible refine (history_Get.calls k (fun k_ => k_ < w.heap.size) _ _ l0 a1 aW aX a3 bk bx true _ ?ay A4.out).mono ?_);(case ay => exact Kd.V_mk cU.out (Kd.F_below (Kd.C_F k28_heap cT.out) (bM HB.out)));rintro e w7 ⟨cW,cX,rfl,a0,b7,hb⟩;refine ⟨_,rfl,?_⟩;have aQ := aK (Kd.V_lower (Kd.V_mono (ok' := fun k_ => True) a0 (fun k_ hk_ => trivial)) (below_size (bM HB.out)));have aR := aK (Kd.V_lower (Kd.V_mono (ok' := fun k_ => True) b7 (fun k_ hk_ => trivial)) (below_size (bM HB.out)));replace HB := aK (below_step (bM HB.out) hb);(try clear hb);(try clear hk);(try clear a0);(try clear b7))|((with_reducible refine gate_dst (N := 6) rfl ?_);refine box_event ?hg (N := 6) ?hd (cs := #[.int .i64 0,.slice none 0 0,.slice none 0 0,.int .i64 0,.int .i64 0]) (t := 28) ?hr ?_;(case hd => rfl);(case hg => rfl);(case hr => first|(go_simp;done)|(go_simp;rfl));intro aa hg w8 hbox hb;replace aQ := aK (Kd.V_below (Kd.V_elderB (vM aQ.out) aa (Nat.le_of_eq hg.symm)) hb);replace aR := aK (Kd.V_below (Kd.V_elderB (vM aR.out) aa (Nat.le_of_eq hg.symm)) hb);have ai := aK (hbox);have bf := aK ((by rw [hg];exact (below_size (bM HB.out)) : w.heap.size ≤ aa));have cD := Ge.mk bf.out;have bF := aK ((by rw [hg];exact (below_size (bM HB.out)) : w.heap.size ≤ aa));have cE := Ge.mk bF.out;replace HB := aK (below_step (bM HB.out) hb);clear hb hbox hg;obtain ⟨ce,cf,cg,ch,ci,cj,ck,cl,cm,cn⟩ := bk5_ ai.out;obtain ⟨bz,bB,cY⟩ := Kd.V_slice aQ.out;subst cY;obtain ⟨bH,bI,cZ⟩ := Kd.V_slice aR.out;subst cZ))
   (try simp only [Act.put,z1_,z2_,z3_])
   go_cut [8] (fun v8 wc => ∃ (kq : Nat) (ap : List (S28)) (aH : Int) (aI : List Int) (aJ : List (S53)) (aM : Int) (aN : Int) (ak : Value) (al : Value),Aside0 (history_Tree.j2 kq ap = some (r1,r2)) ∧ Aside0 (kq ≤ k) ∧ Aside0 (Kd.N k28 28 wc w.heap.size (fun k_ => k_ ≠ aa) v8 ap) ∧ Aside0 (Kd.V (Kd.int .i64) 3 wc w.heap.size (fun k_ => some k_ ≠ (v8 : Value).ownBlock ∧ k_ ≠ aa) ak aI) ∧ Aside0 (Kd.V k53 53 wc w.heap.size (fun k_ => some k_ ≠ (v8 : Value).ownBlock ∧ k_ ≠ aa) al aJ) ∧ Aside0 (wc.heap[aa]? = some (.cells #[.int .i64 aH,ak,al,.int .i64 aM,.int .i64 aN] 28 (0,0))) ∧ Aside0 (Below w.heap.size w wc))
   case first =>
    have H := cV.out
    clear cV
    have H' := aK H
    clear H
    go_wp2
    go_loopg [7,8,9] k (fun kq v7 v8 v9 w' => ∃ (bR : Bool) (a4 : List (S28)) (bg : Int) (ah : Int) (ab : List Int) (ad : List (S53)) (ae : Int) (ac : Int) (ak : Value) (al : Value),v7 = .bool bR ∧ v9 = .int .i64 bg ∧ Aside0 (history_Tree.l0 kq l0 bR a4 bg ah ab ad ae ac = some (r1,r2)) ∧ Aside0 (kq ≤ k) ∧ Aside0 (Kd.N k28 28 w' w.heap.size (fun k_ => k_ ≠ aa) v8 a4) ∧ Aside0 (Kd.V (Kd.int .i64) 3 w' w.heap.size (fun k_ => some k_ ≠ (v8 : Value).ownBlock ∧ k_ ≠ aa) ak ab) ∧ Aside0 (Kd.V k53 53 w' w.heap.size (fun k_ => some k_ ≠ (v8 : Value).ownBlock ∧ k_ ≠ aa) al ad) ∧ Aside0 (w'.heap[aa]? = some (.cells #[.int .i64 ah,ak,al,.int .i64 ae,.int .i64 ac] 28 (0,0))) ∧ Aside0 (Below w.heap.size w w'))
    case atStart => exact ⟨(true),(([] : List (S28))),((l0.length : Int)),(aW),(aX),(a3),(bk),(bx),(.slice bz aX.length bB),(.slice bH a3.length bI),(by first|rfl|(simp;done)|(simp [*];done)),(by first|rfl|(simp;done)|(simp [*];done)),H',⟨Nat.le_refl _⟩,⟨by first|exact Kd.S_nil _ _ _ _ _|exact Kd.N_nil _ _ _ _ _|exact Kd.V_nil _ _ _ _ _|exact Kd.Q_nil _ _ _ _ _|exact Kd.R_nil _ _ _ _ _⟩,⟨by (with_reducible repeat (first|apply Kd.V_alloc|apply Kd.V_drewN|apply Kd.V_drew));exact Kd.V_mono (Kd.V_far (p := ⟨aa,4,none⟩) (Kd.V_far (p := ⟨aa,3,none⟩) (Kd.V_far (p := ⟨aa,2,none⟩) (Kd.V_far (p := ⟨aa,1,none⟩) (Kd.V_far (p := ⟨aa,0,none⟩) (Kd.V_mono aQ.out (fun k_ hk => (⟨hk,hk.2⟩ : _ ∧ k_ ≠ aa))) (fun _ hk => hk.2) (.int .i64 aW)) (fun _ hk => hk.2) (.slice bz aX.length bB)) (fun _ hk => hk.2) (.slice bH a3.length bI)) (fun _ hk => hk.2) (.int .i64 bk)) (fun _ hk => hk.2) (.int .i64 bx)) (fun _ hk => ⟨(by simp [Value.ownBlock]),hk.1.2⟩)⟩,⟨by (with_reducible repeat (first|apply Kd.V_alloc|apply Kd.V_drewN|apply Kd.V_drew));exact Kd.V_mono (Kd.V_far (p := ⟨aa,4,none⟩) (Kd.V_far (p := ⟨aa,3,none⟩) (Kd.V_far (p := ⟨aa,2,none⟩) (Kd.V_far (p := ⟨aa,1,none⟩) (Kd.V_far (p := ⟨aa,0,none⟩) (Kd.V_mono aR.out (fun k_ hk => (⟨hk,hk.2⟩ : _ ∧ k_ ≠ aa))) (fun _ hk => hk.2) (.int .i64 aW)) (fun _ hk => hk.2) (.slice bz aX.length bB)) (fun _ hk => hk.2) (.slice bH a3.length bI)) (fun _ hk => hk.2) (.int .i64 bk)) (fun _ hk => hk.2) (.int .i64 bx)) (fun _ hk => ⟨(by simp [Value.ownBlock]),hk.1.2⟩)⟩,⟨by refine kO ?_;refine blk_put (cs := #[.int .i64 aW,.slice bz aX.length bB,.slice bH a3.length bI,.int .i64 bk,.int .i64 0]) ?_ 4 _ rfl;refine kO ?_;refine blk_put (cs := #[.int .i64 aW,.slice bz aX.length bB,.slice bH a3.length bI,.int .i64 0,.int .i64 0]) ?_ 3 _ rfl;refine kO ?_;refine blk_put (cs := #[.int .i64 aW,.slice bz aX.length bB,.slice none 0 0,.int .i64 0,.int .i64 0]) ?_ 2 _ rfl;refine kO ?_;refine blk_put (cs := #[.int .i64 aW,.slice none 0 0,.slice none 0 0,.int .i64 0,.int .i64 0]) ?_ 1 _ rfl;refine kO ?_;refine blk_put (cs := #[.int .i64 0,.slice none 0 0,.slice none 0 0,.int .i64 0,.int .i64 0]) ?_ 0 _ rfl;refine kO ?_;exact ai.out⟩,⟨bG HB.out⟩⟩
    case round =>
     clear H'
     try clear p2
     try clear c3
     try clear cB
     try clear cC
     try clear c5
     try clear ce
     try clear cf
     try clear cg
     try clear ch
     try clear ci
     try clear cj
     try clear ck
     try clear cl
     try clear cm
     try clear cn
     obtain ⟨bR,a4,bg,ah,ab,ad,ae,ac,ak,al,rfl,rfl,HA,cz,ao,af,ag,ai,HB⟩ := hrel
     cases gk with
    |zero => exact absurd HA.out (by simp [history_Tree.l0])
    |succ k1 =>
      have H := HA.out
      clear HA
      simp only [history_Tree.l0] at H
      have co := aK H
      clear H
      go_upto_region 8 with (fail)
      go_cut [30] (fun dL wc => ∃ (kq : Nat) (a5 : Bool),dL = .bool a5 ∧ Aside0 (history_Tree.j1 kq l0 a4 bg a5 ah ab ad ae ac = some (r1,r2)) ∧ Aside0 (kq ≤ k1) ∧ Aside0 (Kd.N k28 28 wc w.heap.size (fun k_ => k_ ≠ aa) u8 a4) ∧ Aside0 (Kd.V (Kd.int .i64) 3 wc w.heap.size (fun k_ => some k_ ≠ (u8 : Value).ownBlock ∧ k_ ≠ aa) ak ab) ∧ Aside0 (Kd.V k53 53 wc w.heap.size (fun k_ => some k_ ≠ (u8 : Value).ownBlock ∧ k_ ≠ aa) al ad) ∧ Aside0 (wc.heap[aa]? = some (.cells #[.int .i64 ah,ak,al,.int .i64 ae,.int .i64 ac] 28 (0,0))) ∧ Aside0 (Below w.heap.size w wc))
      case first =>
       have H := co.out
       clear co
       by_cases cQ : bR = true
       ·subst cQ
        rw [if_pos rfl] at H
        have H' := aK H
        clear H
        go_wp2
        go_meet
        case rel => exact ⟨_,(decide (bg ≥ 0)),(by first|rfl|(simp;done)|(simp [*];done)),H',⟨by have := cz.out;first|omega|exact Nat.le_refl _⟩,⟨nM ao.out⟩,⟨vM af.out⟩,⟨vM ag.out⟩,⟨kM ai.out⟩,⟨bG HB.out⟩⟩
       ·replace cQ := Bool.eq_false_iff.mpr cQ
        subst cQ
        rw [if_neg (show ¬ (false = true) by decide)] at H
        have H' := aK H
        clear H
        go_wp2
        go_meet
        case rel => exact ⟨_,(false),(by first|rfl|(simp;done)|(simp [*];done)),H',⟨by have := cz.out;first|omega|exact Nat.le_refl _⟩,⟨nM ao.out⟩,⟨vM af.out⟩,⟨vM ag.out⟩,⟨kM ai.out⟩,⟨bG HB.out⟩⟩
      case rest =>
       clear co
       try clear p2
       try clear p2
       obtain ⟨kq,a5,rfl,HA,bS,ao,af,ag,ai,HB⟩ := hcut
       cases kq with
      |zero => exact absurd HA.out (by simp [history_Tree.j1])
      |succ kj11 =>
        have H := HA.out
        clear HA
        simp only [history_Tree.j1] at H
        by_cases cR : a5 = true
        ·subst cR
         rw [if_pos rfl] at H
         obtain ⟨dw,H⟩ := iS H
         have b8 := aK dw
         clear dw
         obtain ⟨bJ,bh⟩ : ∃ y_ : List (S28),y_ = (a4 ++ [(⟨ah,ab,ad,ae,ac⟩ : S28)]) := ⟨_,rfl⟩
         replace H : (if (ab.length : Int) = 0 then (history_Tree.j2 kj11 bJ) else (if 0 < (ab.length : Int) then ((history_Get.f kj11 l0 (rd ab 0)).bind fun a2 => (history_Tree.l0 kj11 l0 a2.2.2.2.2.2 bJ (wrap64 (bg - 1)) a2.1 a2.2.1 a2.2.2.1 a2.2.2.2.1 a2.2.2.2.2.1)) else (none))) = some (r1,r2) := by first|(rw [bh];with_reducible exact H)|(have c1 := (Option.bind_some _ _).symm.trans H;rw [bh];with_reducible exact c1)|(have c1 := (Option.bind_some _ _).symm.trans H;with_reducible exact c1)|with_reducible exact H|(rw [bh];exact H)|exact H
         have b9 := aK bh
         clear bh
         by_cases ca : (ab.length : Int) = 0
         ·rw [if_pos ca] at H
          have cF := beq_iff_eq.mpr ca
          have cG := bne_eq_false_iff_eq.mpr ca
          clear ca
          have H' := aK H
          clear H
          obtain ⟨_,_,_,_,_,_,_,_,_,_⟩ := bk5_ ai.out
          obtain ⟨bT,bU,da⟩ := Kd.V_slice af.out
          subst da
          obtain ⟨bV,bW,db⟩ := Kd.V_slice ag.out
          subst db
          go_wp2_with (first|((with_reducible refine gate_builtin (b := .append) (xs := #[.tmp 33,.tmp 35]) rfl ?_);at_builtin;refine Kd.N_append k28 (w0 := w) w.heap.size rfl (.tmp 33) (.tmp 35) 22 28 (.agg #[(.int .i64 0),(.slice none 0 0),(.slice none 0 0),(.int .i64 0),(.int .i64 0)]) 72 rfl Tryz.underlying22 info28 rfl (by decide) (by omega) u8 a4 (⟨ah,ab,ad,ae,ac⟩ : S28) [.int .i64 ah,.slice bT ab.length bU,.slice bV ad.length bW,.int .i64 ae,.int .i64 ac] (fun k_ => k_ ≠ aa) (fun k_ => ((fun k_ => k_ ≠ aa)) k_ ∧ some k_ ≠ (u8 : Value).ownBlock) rfl rfl ?aP (fun _ hk => hk) ?aF ?aO ?aB ?aS ?aL ?_;(case aP => exact (k28_mkF _ _ (⟨ah,ab,ad,ae,ac⟩ : S28) (Kd.V_reads' (Kd.V_mono (ok' := (fun k_ => ((fun k_ => k_ ≠ aa)) k_ ∧ some k_ ≠ (u8 : Value).ownBlock)) (af.out) (fun k_ hk => ⟨hk.2,hk.1⟩))).2.1 (Kd.V_F (Kd.V_mono (ok' := (fun k_ => ((fun k_ => k_ ≠ aa)) k_ ∧ some k_ ≠ (u8 : Value).ownBlock)) (af.out) (fun k_ hk => ⟨hk.2,hk.1⟩))) (Kd.V_reads' (Kd.V_mono (ok' := (fun k_ => ((fun k_ => k_ ≠ aa)) k_ ∧ some k_ ≠ (u8 : Value).ownBlock)) (ag.out) (fun k_ hk => ⟨hk.2,hk.1⟩))).2.1 (Kd.V_F (Kd.V_mono (ok' := (fun k_ => ((fun k_ => k_ ≠ aa)) k_ ∧ some k_ ≠ (u8 : Value).ownBlock)) (ag.out) (fun k_ hk => ⟨hk.2,hk.1⟩)))));(case aB => exact (bG HB.out));(case aF => exact (fun k_ hk => Kd.freshB (g := aa) (o := .cells #[.int .i64 ah,.slice bT ab.length bU,.slice bV ad.length bW,.int .i64 ae,.int .i64 ac] 28 (0,0)) (kM ai.out) k_ hk));(case aO => exact (nM ao.out));(case aS => exact (below_size (bG HB.out)));(case aL => have := b8.out;omega);intro cp dU ho hb hg hat;rw [← b9.out] at ho;replace af := aK (Kd.V_afterv (ok := (fun k_ => k_ ≠ aa)) (by (with_reducible repeat (first|apply Kd.V_alloc|apply Kd.V_drewN|apply Kd.V_drew));exact Kd.V_mono af.out (fun _ hk => ⟨hk.2,hk.1⟩)) hg hat);replace ag := aK (Kd.V_afterv (ok := (fun k_ => k_ ≠ aa)) (by (with_reducible repeat (first|apply Kd.V_alloc|apply Kd.V_drewN|apply Kd.V_drew));exact Kd.V_mono ag.out (fun _ hk => ⟨hk.2,hk.1⟩)) hg hat);replace ai := aK (blk_grown (g := aa) (o := .cells #[.int .i64 ah,.slice bT ab.length bU,.slice bV ad.length bW,.int .i64 ae,.int .i64 ac] 28 (0,0)) (kM ai.out) hg (Kd.N_away ao.out (fun _ hk => hk)));replace HB := aK (hb);have az := aK (ho);clear ho hb hg hat;obtain ⟨_,_,_,_,_,_,_,_,_,_⟩ := bk5_ ai.out))
          go_meet
          case rel => exact ⟨_,(bJ),(ah),(ab),(ad),(ae),(ac),(.slice bT ab.length bU),(.slice bV ad.length bW),H',⟨by have := cz.out;have := bS.out;first|omega|exact Nat.le_refl _⟩,⟨nM az.out⟩,⟨by (with_reducible repeat (first|apply Kd.V_alloc|apply Kd.V_drewN|apply Kd.V_drew));exact Kd.V_mono af.out (fun _ hk => ⟨hk.2,hk.1⟩)⟩,⟨by (with_reducible repeat (first|apply Kd.V_alloc|apply Kd.V_drewN|apply Kd.V_drew));exact Kd.V_mono ag.out (fun _ hk => ⟨hk.2,hk.1⟩)⟩,⟨kM ai.out⟩,⟨bG HB.out⟩⟩
         ·rw [if_neg ca] at H
          have cF := beq_eq_false_iff_ne.mpr ca
          have cG := bne_iff_ne.mpr ca
          have dx : ¬ (ab = []) := fun h_ => ca (by rw [h_];rfl)
          obtain ⟨dy,H⟩ := iS H
          have dz := decide_eq_true dy
          have dB : decide (0 < ab.length) = true := decide_eq_true (by omega)
          clear dy
          replace H := Option.bind_eq_some_iff.mp H
          obtain ⟨⟨aY,aZ,a6,bm,bC,cq⟩,cH,H⟩ := H
          replace H : (history_Tree.l0 kj11 l0 cq bJ (wrap64 (bg - 1)) aY aZ a6 bm bC) = some (r1,r2) := H
          have dM := aK cH
          clear cH
          have H' := aK H
          clear H
          obtain ⟨_,_,_,_,_,_,_,_,_,_⟩ := bk5_ ai.out
          obtain ⟨cr,bn,dc⟩ := Kd.V_slice af.out
          subst dc
          obtain ⟨bi,bj,dd⟩ := Kd.V_slice ag.out
          subst dd
          go_wp2_with (first|((with_reducible refine gate_builtin (b := .append) (xs := #[.tmp 33,.tmp 35]) rfl ?_);at_builtin;refine Kd.N_append k28 (w0 := w) w.heap.size rfl (.tmp 33) (.tmp 35) 22 28 (.agg #[(.int .i64 0),(.slice none 0 0),(.slice none 0 0),(.int .i64 0),(.int .i64 0)]) 72 rfl Tryz.underlying22 info28 rfl (by decide) (by omega) u8 a4 (⟨ah,ab,ad,ae,ac⟩ : S28) [.int .i64 ah,.slice cr ab.length bn,.slice bi ad.length bj,.int .i64 ae,.int .i64 ac] (fun k_ => k_ ≠ aa) (fun k_ => ((fun k_ => k_ ≠ aa)) k_ ∧ some k_ ≠ (u8 : Value).ownBlock) rfl rfl ?aP (fun _ hk => hk) ?aF ?aO ?aB ?aS ?aL ?_;(case aP => exact (k28_mkF _ _ (⟨ah,ab,ad,ae,ac⟩ : S28) (Kd.V_reads' (Kd.V_mono (ok' := (fun k_ => ((fun k_ => k_ ≠ aa)) k_ ∧ some k_ ≠ (u8 : Value).ownBlock)) (af.out) (fun k_ hk => ⟨hk.2,hk.1⟩))).2.1 (Kd.V_F (Kd.V_mono (ok' := (fun k_ => ((fun k_ => k_ ≠ aa)) k_ ∧ some k_ ≠ (u8 : Value).ownBlock)) (af.out) (fun k_ hk => ⟨hk.2,hk.1⟩))) (Kd.V_reads' (Kd.V_mono (ok' := (fun k_ => ((fun k_ => k_ ≠ aa)) k_ ∧ some k_ ≠ (u8 : Value).ownBlock)) (ag.out) (fun k_ hk => ⟨hk.2,hk.1⟩))).2.1 (Kd.V_F (Kd.V_mono (ok' := (fun k_ => ((fun k_ => k_ ≠ aa)) k_ ∧ some k_ ≠ (u8 : Value).ownBlock)) (ag.out) (fun k_ hk => ⟨hk.2,hk.1⟩)))));(case aB => exact (bG HB.out));(case aF => exact (fun k_ hk => Kd.freshB (g := aa) (o := .cells #[.int .i64 ah,.slice cr ab.length bn,.slice bi ad.length bj,.int .i64 ae,.int .i64 ac] 28 (0,0)) (kM ai.out) k_ hk));(case aO => exact (nM ao.out));(case aS => exact (below_size (bG HB.out)));(case aL => have := b8.out;omega);intro cp dV ho hb hg hat;rw [← b9.out] at ho;replace af := aK (Kd.V_afterv (ok := (fun k_ => k_ ≠ aa)) (by (with_reducible repeat (first|apply Kd.V_alloc|apply Kd.V_drewN|apply Kd.V_drew));exact Kd.V_mono af.out (fun _ hk => ⟨hk.2,hk.1⟩)) hg hat);replace ag := aK (Kd.V_afterv (ok := (fun k_ => k_ ≠ aa)) (by (with_reducible repeat (first|apply Kd.V_alloc|apply Kd.V_drewN|apply Kd.V_drew));exact Kd.V_mono ag.out (fun _ hk => ⟨hk.2,hk.1⟩)) hg hat);replace ai := aK (blk_grown (g := aa) (o := .cells #[.int .i64 ah,.slice cr ab.length bn,.slice bi ad.length bj,.int .i64 ae,.int .i64 ac] 28 (0,0)) (kM ai.out) hg (Kd.N_away ao.out (fun _ hk => hk)));replace HB := aK (hb);have az := aK (ho);clear ho hb hg hat;obtain ⟨_,_,_,_,_,_,_,_,_,_⟩ := bk5_ ai.out;have bK : 0 ≤ (0 : Int) := (by omega);have bL : 0 < (ab.length : Int) := dA;obtain ⟨bv,de,aT⟩ := Kd.at_int (Kd.V_reads' af.out).2.2 0 bK bL;cases de;have dC : (0 < ab.length) = True := eq_true (by omega);(try rw [show ((0 : Int)).toNat = 0 from rfl] at aT);(try rw [Addr.add_zero'] at aT);replace bK := eq_true bK;replace bL := eq_true bL)|((with_reducible refine gate_callee (f := 12) rfl ?_);refine gL 47 Tryz.func12 #[.slice A0 l0.length c0,.int .i64 (rd ab 0)] ?_;(with_reducible refine (history_Get.calls kj11 (fun k_ => k_ < w.heap.size) _ _ l0 (rd ab 0) aY aZ a6 bm bC cq _ ?ay dM.out).mono ?_);(case ay => exact Kd.V_mk cU.out (Kd.F_below (Kd.C_F k28_heap cT.out) (bG HB.out)));rintro e dW ⟨dN,dO,rfl,a0,b7,hb⟩;refine ⟨_,rfl,?_⟩;replace af := aK (Kd.V_below (vM af.out) hb);replace ag := aK (Kd.V_below (vM ag.out) hb);have cb := aK (Kd.V_lower (Kd.V_mono (ok' := fun k_ => some k_ ≠ (cp : Value).ownBlock ∧ k_ ≠ aa) a0 (fun k_ hk_ => ⟨Or.elim hk_ (fun hs_ => fun e_ => Nat.not_le.2 hs_ (Kd.N_base az.out k_ e_.symm)) (fun hn_ => (Kd.fresh' (Kd.N_lt (nM az.out)) k_ hn_)),Or.elim hk_ (fun hs_ => fun e_ => Nat.not_le.2 hs_ (by rw [e_];exact bf.out)) (fun hn_ => (Kd.freshB (g := aa) (o := .cells #[.int .i64 ah,.slice (some bv) ab.length bn,.slice bi ad.length bj,.int .i64 ae,.int .i64 ac] 28 (0,0)) (kM ai.out) k_ hn_))⟩)) (below_size (bG HB.out)));have cc := aK (Kd.V_lower (Kd.V_mono (ok' := fun k_ => some k_ ≠ (cp : Value).ownBlock ∧ k_ ≠ aa) b7 (fun k_ hk_ => ⟨Or.elim hk_ (fun hs_ => fun e_ => Nat.not_le.2 hs_ (Kd.N_base az.out k_ e_.symm)) (fun hn_ => (Kd.fresh' (Kd.N_lt (nM az.out)) k_ hn_)),Or.elim hk_ (fun hs_ => fun e_ => Nat.not_le.2 hs_ (by rw [e_];exact bf.out)) (fun hn_ => (Kd.freshB (g := aa) (o := .cells #[.int .i64 ah,.slice (some bv) ab.length bn,.slice bi ad.length bj,.int .i64 ae,.int .i64 ac] 28 (0,0)) (kM ai.out) k_ hn_))⟩)) (below_size (bG HB.out)));replace az := aK (Kd.N_below (nM az.out) hb);replace ai := aK (blk_below (kM ai.out) hb);replace HB := aK (below_step (bG HB.out) hb);(try clear hb);(try clear hk);(try clear a0);(try clear b7);obtain ⟨_,_,_,_,_,_,_,_,_,_⟩ := bk5_ ai.out;obtain ⟨bo,bp,df⟩ := Kd.V_slice cb.out;subst df;obtain ⟨bD,bE,dg⟩ := Kd.V_slice cc.out;subst dg))
          go_roundg kj11
          case measure => have := cz.out;have := bS.out;omega
          case rel => exact ⟨(cq),(bJ),(wrap64 (bg - 1)),(aY),(aZ),(a6),(bm),(bC),(.slice bo aZ.length bp),(.slice bD a6.length bE),(by first|rfl|(simp;done)|(simp [*];done)),(by first|rfl|(simp;done)|(simp [*];done)),H',⟨by have := cz.out;have := bS.out;omega⟩,⟨by (with_reducible repeat (first|apply Kd.N_alloc|apply Kd.N_drewN|apply Kd.N_drew));exact Kd.N_mono (Kd.N_far (p := ⟨aa,4,none⟩) (Kd.N_far (p := ⟨aa,3,none⟩) (Kd.N_far (p := ⟨aa,2,none⟩) (Kd.N_far (p := ⟨aa,1,none⟩) (Kd.N_far (p := ⟨aa,0,none⟩) (Kd.N_mono az.out (fun k_ hk => (⟨hk,hk⟩ : _ ∧ k_ ≠ aa))) (fun _ hk => hk.2) (.int .i64 aY)) (fun _ hk => hk.2) (.slice bo aZ.length bp)) (fun _ hk => hk.2) (.slice bD a6.length bE)) (fun _ hk => hk.2) (.int .i64 bm)) (fun _ hk => hk.2) (.int .i64 bC)) (fun _ hk => hk.1)⟩,⟨by (with_reducible repeat (first|apply Kd.V_alloc|apply Kd.V_drewN|apply Kd.V_drew));exact Kd.V_mono (Kd.V_far (p := ⟨aa,4,none⟩) (Kd.V_far (p := ⟨aa,3,none⟩) (Kd.V_far (p := ⟨aa,2,none⟩) (Kd.V_far (p := ⟨aa,1,none⟩) (Kd.V_far (p := ⟨aa,0,none⟩) (Kd.V_mono cb.out (fun k_ hk => (⟨hk,hk.2⟩ : _ ∧ k_ ≠ aa))) (fun _ hk => hk.2) (.int .i64 aY)) (fun _ hk => hk.2) (.slice bo aZ.length bp)) (fun _ hk => hk.2) (.slice bD a6.length bE)) (fun _ hk => hk.2) (.int .i64 bm)) (fun _ hk => hk.2) (.int .i64 bC)) (fun _ hk => ⟨hk.1.1,hk.1.2⟩)⟩,⟨by (with_reducible repeat (first|apply Kd.V_alloc|apply Kd.V_drewN|apply Kd.V_drew));exact Kd.V_mono (Kd.V_far (p := ⟨aa,4,none⟩) (Kd.V_far (p := ⟨aa,3,none⟩) (Kd.V_far (p := ⟨aa,2,none⟩) (Kd.V_far (p := ⟨aa,1,none⟩) (Kd.V_far (p := ⟨aa,0,none⟩) (Kd.V_mono cc.out (fun k_ hk => (⟨hk,hk.2⟩ : _ ∧ k_ ≠ aa))) (fun _ hk => hk.2) (.int .i64 aY)) (fun _ hk => hk.2) (.slice bo aZ.length bp)) (fun _ hk => hk.2) (.slice bD a6.length bE)) (fun _ hk => hk.2) (.int .i64 bm)) (fun _ hk => hk.2) (.int .i64 bC)) (fun _ hk => ⟨hk.1.1,hk.1.2⟩)⟩,⟨by refine kO ?_;refine blk_put (cs := #[.int .i64 aY,.slice bo aZ.length bp,.slice bD a6.length bE,.int .i64 bm,.int .i64 ac]) ?_ 4 _ rfl;refine kO ?_;refine blk_put (cs := #[.int .i64 aY,.slice bo aZ.length bp,.slice bD a6.length bE,.int .i64 ae,.int .i64 ac]) ?_ 3 _ rfl;refine kO ?_;refine blk_put (cs := #[.int .i64 aY,.slice bo aZ.length bp,.slice bi ad.length bj,.int .i64 ae,.int .i64 ac]) ?_ 2 _ rfl;refine kO ?_;refine blk_put (cs := #[.int .i64 aY,.slice (some bv) ab.length bn,.slice bi ad.length bj,.int .i64 ae,.int .i64 ac]) ?_ 1 _ rfl;refine kO ?_;refine blk_put (cs := #[.int .i64 ah,.slice (some bv) ab.length bn,.slice bi ad.length bj,.int .i64 ae,.int .i64 ac]) ?_ 0 _ rfl;refine kO ?_;exact ai.out⟩,⟨bG HB.out⟩⟩
        ·replace cR := Bool.eq_false_iff.mpr cR
         subst cR
         rw [if_neg (show ¬ (false = true) by decide)] at H
         have H' := aK H
         clear H
         go_wp2
         go_meet
         case rel => exact ⟨_,(a4),(ah),(ab),(ad),(ae),(ac),(ak),(al),H',⟨by have := cz.out;have := bS.out;first|omega|exact Nat.le_refl _⟩,⟨nM ao.out⟩,⟨vM af.out⟩,⟨vM ag.out⟩,⟨kM ai.out⟩,⟨bG HB.out⟩⟩
   case rest =>
    clear cV
    try clear p1
    try clear q1
    try clear hx1
    try clear qi1
    try clear p2
    try clear p6
    try clear p19
    try clear q19
    try clear hx19
    try clear qi19
    try clear aT
    try clear bK
    try clear p2
    try clear bL
    obtain ⟨kq,ap,aH,aI,aJ,aM,aN,ak,al,HA,dD,ao,af,ag,ai,HB⟩ := hcut
    cases kq with
   |zero => exact absurd HA.out (by simp [history_Tree.j2])
   |succ kj5 =>
     have H := HA.out
     clear HA
     simp only [history_Tree.j2] at H
     have H' := aK H
     clear H
     obtain ⟨ct,cu,dh⟩ := Kd.N_slice ao.out
     subst dh
     go_wp2
     go_loopg [10,11] kj5 (fun kq cS dP w' => ∃ (aV : List (S55)) (aj : Int),dP = .int .i64 aj ∧ Aside0 (history_Tree.l1 kq ap aV aj = some (r1,r2)) ∧ Aside0 (kq ≤ kj5) ∧ Aside0 (Kd.N k28 28 w' w.heap.size (fun k_ => some k_ ≠ (cS : Value).ownBlock ∧ k_ ≠ aa) (.slice ct ap.length cu) ap) ∧ Aside0 (Kd.R k55 55 w' w.heap.size (fun _ => True) cS aV) ∧ Aside0 (Kd.V (Kd.int .i64) 3 w' w.heap.size (fun k_ => some k_ ≠ ((.slice ct ap.length cu) : Value).ownBlock ∧ some k_ ≠ (cS : Value).ownBlock ∧ k_ ≠ aa) ak aI) ∧ Aside0 (Kd.V k53 53 w' w.heap.size (fun k_ => some k_ ≠ ((.slice ct ap.length cu) : Value).ownBlock ∧ some k_ ≠ (cS : Value).ownBlock ∧ k_ ≠ aa) al aJ) ∧ Aside0 (w'.heap[aa]? = some (.cells #[.int .i64 aH,ak,al,.int .i64 aM,.int .i64 aN] 28 (0,0))) ∧ Aside0 (Below w.heap.size w w'))
     case atStart => exact ⟨(([] : List (S55))),(wrap64 ((ap.length : Int) - 1)),(by first|rfl|(simp;done)|(simp [*];done)),H',⟨Nat.le_refl _⟩,⟨by (with_reducible repeat (first|apply Kd.N_alloc|apply Kd.N_drewN|apply Kd.N_drew));exact Kd.N_mono ao.out (fun _ hk => ⟨(by simp [Value.ownBlock]),hk⟩)⟩,⟨by first|exact Kd.R_nil _ _ _ _ _|exact Kd.N_nil _ _ _ _ _|exact Kd.V_nil _ _ _ _ _|exact Kd.Q_nil _ _ _ _ _|exact Kd.S_nil _ _ _ _ _⟩,⟨by (with_reducible repeat (first|apply Kd.V_alloc|apply Kd.V_drewN|apply Kd.V_drew));exact Kd.V_mono af.out (fun _ hk => ⟨hk.1,⟨(by simp [Value.ownBlock]),hk.2⟩⟩)⟩,⟨by (with_reducible repeat (first|apply Kd.V_alloc|apply Kd.V_drewN|apply Kd.V_drew));exact Kd.V_mono ag.out (fun _ hk => ⟨hk.1,⟨(by simp [Value.ownBlock]),hk.2⟩⟩)⟩,⟨kM ai.out⟩,⟨bG HB.out⟩⟩
     case round =>
      clear H'
      try clear p1
      try clear q1
      try clear hx1
      try clear qi1
      try clear p2
      try clear p6
      try clear p19
      try clear q19
      try clear hx19
      try clear qi19
      try clear aT
      try clear p1
      try clear p19
      try clear bK
      try clear p2
      try clear p6
      try clear q1
      try clear q19
      try clear bL
      obtain ⟨aV,aj,rfl,HA,dE,ao,aw,af,ag,ai,HB⟩ := hrel
      cases gk with
     |zero => exact absurd HA.out (by simp [history_Tree.l1])
     |succ k2 =>
       have H := HA.out
       clear HA
       simp only [history_Tree.l1] at H
       by_cases cA : aj ≥ 0
       ·rw [if_pos cA] at H
        have cI := decide_eq_true cA
        clear cA
        obtain ⟨dF,H⟩ := iS H
        have dG := decide_eq_true dF
        clear dF
        obtain ⟨dH,H⟩ := iS H
        have dI := decide_eq_true dH
        clear dH
        replace H := Option.bind_eq_some_iff.mp H
        obtain ⟨⟨bX,bN⟩,cJ,H⟩ := H
        replace H : (if bN = 0 then (history_Tree.l1 k2 ap bX (wrap64 (aj - 1))) else (some (([] : List (S55)),bN))) = some (r1,r2) := H
        have dJ := aK cJ
        clear cJ
        by_cases cv : bN = 0
        ·rw [if_pos cv] at H
         have cK := beq_iff_eq.mpr cv
         have cL := bne_eq_false_iff_eq.mpr cv
         clear cv
         have H' := aK H
         clear H
         have a7 : 0 ≤ (aj : Int) := dA
         have a8 : aj < (ap.length : Int) := dA
         obtain ⟨cN,cw,cx,bq,br,cy,bY,a9,ba,bZ,b1,aA,aC,aD,aE⟩ := at_T28 (Kd.N_reads' ao.out).2.2 aj a7 a8
         cases cy
         obtain ⟨cO,bs,bu,ax⟩ := Kd.N_get ao.out z28 aj a7 (by first|exact a8|exact dA|(have e_ := (Kd.N_reads' ao.out).1;omega))
         obtain ⟨b2,b3,b4,b5,rfl,aq,ar,au,av⟩ := k28_openF bu
         have am := ax 1 _ rfl
         rw [add_field _ _ 1 (by omega)] at am
         replace am := Option.some.inj (am.symm.trans a9)
         injection am with hva_ hvn_ hvc_
         rw [hva_] at ar
         rw [hvc_] at aq
         have bb := aK (show Kd.V (Kd.int .i64) 3 _ w.heap.size _ _ ((rd_T28 ap aj).f1) from Kd.V_mk aq ar)
         clear hva_ hvn_ hvc_ ar aq
         have an := ax 2 _ rfl
         rw [add_field _ _ 2 (by omega)] at an
         replace an := Option.some.inj (an.symm.trans ba)
         injection an with hva_ hvn_ hvc_
         rw [hva_] at av
         rw [hvc_] at au
         have bc := aK (show Kd.V k53 53 _ w.heap.size _ _ ((rd_T28 ap aj).f2) from Kd.V_mk au av)
         clear hva_ hvn_ hvc_ av au
         clear ax bs
         have bd := aK aC
         have b6 := aK aA
         clear aC aA
         have aG := aK aE
         have be := aK aD
         clear aE aD
         replace a7 := eq_true a7
         replace a8 := eq_true a8
         obtain ⟨di,dj,dk⟩ := Kd.R_slice aw.out
         subst dk
         go_wp2_with (first|((with_reducible refine gate_callee (f := 37) rfl ?_);refine gL 64 Tryz.func37 #[.slice di aV.length dj,.slice bq ((rd_T28 ap aj).f2).length br] ?_;(with_reducible refine (tree_Apply.calls k2 _ _ aV _ _ ((rd_T28 ap aj).f2) bX bN _ ?ay ?bO ?bP ?bQ dJ.out).mono ?_);(case ay => exact cM (Kd.R_reads' aw.out).2.2);(case bO => exact (Kd.R_reads' aw.out).2.1);(case bP => repeat (first|exact (cM aG.out)|(with_reducible refine Kd.C_alloc ?_ _)|(with_reducible refine Kd.C_drewN ?_ _)|(with_reducible refine Kd.C_drew ?_)));(case bQ => exact be.out);rintro e dX ⟨dl,rfl,a0,hb⟩;refine ⟨_,rfl,?_⟩;replace ao := aK (Kd.N_elder' (nM ao.out) (Kd.R_base a0) hb);replace af := aK (Kd.V_elder' (vM af.out) (Kd.R_base a0) hb);replace ag := aK (Kd.V_elder' (vM ag.out) (Kd.R_base a0) hb);replace bb := aK (Kd.V_elder' (vM bb.out) (Kd.R_base a0) hb);replace bc := aK (Kd.V_elder' (vM bc.out) (Kd.R_base a0) hb);have cP := aK (Kd.R_lower (Kd.R_new' a0 (Kd.R_lt (rM aw.out))) (below_size (bG HB.out)));replace aw := aK (Kd.R_elder' (rM aw.out) (Kd.R_base a0) hb);replace ai := aK (blk_below (kM ai.out) hb);replace bd := aK (Kd.C_below (cM bd.out) hb);replace aG := aK (Kd.C_below (cM aG.out) hb);replace HB := aK (below_step (bG HB.out) hb);(try clear hb);(try clear hk);(try clear a0)))
         go_roundg k2
         case measure => have := dD.out;have := dE.out;omega
         case rel => exact ⟨(bX),(wrap64 (aj - 1)),(by first|rfl|(simp;done)|(simp [*];done)),H',⟨by have := dD.out;have := dE.out;omega⟩,⟨by (with_reducible repeat (first|apply Kd.N_alloc|apply Kd.N_drewN|apply Kd.N_drew));exact Kd.N_mono ao.out (fun _ hk => ⟨hk.2,hk.1.2⟩)⟩,⟨rM (Kd.R_mono cP.out (fun _ hk => trivial))⟩,⟨by (with_reducible repeat (first|apply Kd.V_alloc|apply Kd.V_drewN|apply Kd.V_drew));exact Kd.V_mono af.out (fun _ hk => ⟨hk.1.1,⟨hk.2,hk.1.2.2⟩⟩)⟩,⟨by (with_reducible repeat (first|apply Kd.V_alloc|apply Kd.V_drewN|apply Kd.V_drew));exact Kd.V_mono ag.out (fun _ hk => ⟨hk.1.1,⟨hk.2,hk.1.2.2⟩⟩)⟩,⟨kM ai.out⟩,⟨bG HB.out⟩⟩
        ·rw [if_neg cv] at H
         have cK := beq_eq_false_iff_ne.mpr cv
         have cL := bne_iff_ne.mpr cv
         simp only [Option.some.injEq,Prod.mk.injEq] at H
         obtain ⟨rfl,rfl⟩ := H
         have a7 : 0 ≤ (aj : Int) := dA
         have a8 : aj < (ap.length : Int) := dA
         obtain ⟨cN,cw,cx,bq,br,cy,bY,a9,ba,bZ,b1,aA,aC,aD,aE⟩ := at_T28 (Kd.N_reads' ao.out).2.2 aj a7 a8
         cases cy
         obtain ⟨cO,bs,bu,ax⟩ := Kd.N_get ao.out z28 aj a7 (by first|exact a8|exact dA|(have e_ := (Kd.N_reads' ao.out).1;omega))
         obtain ⟨b2,b3,b4,b5,rfl,aq,ar,au,av⟩ := k28_openF bu
         have am := ax 1 _ rfl
         rw [add_field _ _ 1 (by omega)] at am
         replace am := Option.some.inj (am.symm.trans a9)
         injection am with hva_ hvn_ hvc_
         rw [hva_] at ar
         rw [hvc_] at aq
         have bb := aK (show Kd.V (Kd.int .i64) 3 _ w.heap.size _ _ ((rd_T28 ap aj).f1) from Kd.V_mk aq ar)
         clear hva_ hvn_ hvc_ ar aq
         have an := ax 2 _ rfl
         rw [add_field _ _ 2 (by omega)] at an
         replace an := Option.some.inj (an.symm.trans ba)
         injection an with hva_ hvn_ hvc_
         rw [hva_] at av
         rw [hvc_] at au
         have bc := aK (show Kd.V k53 53 _ w.heap.size _ _ ((rd_T28 ap aj).f2) from Kd.V_mk au av)
         clear hva_ hvn_ hvc_ av au
         clear ax bs
         have bd := aK aC
         have b6 := aK aA
         clear aC aA
         have aG := aK aE
         have be := aK aD
         clear aE aD
         replace a7 := eq_true a7
         replace a8 := eq_true a8
         obtain ⟨dm,dn,dp⟩ := Kd.R_slice aw.out
         subst dp
         go_wp2_with (first|((with_reducible refine gate_callee (f := 37) rfl ?_);refine gL 64 Tryz.func37 #[.slice dm aV.length dn,.slice bq ((rd_T28 ap aj).f2).length br] ?_;(with_reducible refine (tree_Apply.calls k2 _ _ aV _ _ ((rd_T28 ap aj).f2) bX bN _ ?ay ?bO ?bP ?bQ dJ.out).mono ?_);(case ay => exact cM (Kd.R_reads' aw.out).2.2);(case bO => exact (Kd.R_reads' aw.out).2.1);(case bP => repeat (first|exact (cM aG.out)|(with_reducible refine Kd.C_alloc ?_ _)|(with_reducible refine Kd.C_drewN ?_ _)|(with_reducible refine Kd.C_drew ?_)));(case bQ => exact be.out);rintro e dY ⟨dl,rfl,a0,hb⟩;refine ⟨_,rfl,?_⟩;replace aw := aK (Kd.R_elder' (rM aw.out) (Kd.R_base a0) hb);replace ai := aK (blk_below (kM ai.out) hb);replace HB := aK (below_step (bG HB.out) hb);(try clear hb);(try clear hk);(try clear a0)))
         go_ret2
         exact ⟨_,by first|rfl|(simp [errW_none,errW_some] <;> rfl)|(simp [*,errW_none,errW_some] <;> rfl),by first|exact Kd.R_nil _ _ _ _ _|exact Kd.N_nil _ _ _ _ _|exact Kd.V_nil _ _ _ _ _|exact Kd.Q_nil _ _ _ _ _|exact Kd.S_nil _ _ _ _ _,bG HB.out⟩
       ·rw [if_neg cA] at H
        have cI := decide_eq_false cA
        clear cA
        simp only [Option.some.injEq,Prod.mk.injEq] at H
        obtain ⟨rfl,rfl⟩ := H
        go_wp2
        go_ret2
        exact ⟨_,by first|rfl|(simp [errW_none,errW_some] <;> rfl)|(simp [*,errW_none,errW_some] <;> rfl),rM aw.out,bG HB.out⟩
  ·replace c5 := Bool.eq_false_iff.mpr c5
   subst c5
   rw [if_neg (show ¬ (false = true) by decide)] at H
   simp only [Option.some.injEq,Prod.mk.injEq] at H
   obtain ⟨rfl,rfl⟩ := H
   go_enter Tryz.func18,Tryz.ntmps18
   go_wp2_with (first|((with_reducible refine gate_callee (f := 12) rfl ?_);refine gL 19 Tryz.func12 #[.slice A0 l0.length c0,.int .i64 a1] ?_;(with_reducible refine (history_Get.calls k (fun k_ => k_ < w.heap.size) _ _ l0 a1 aW aX a3 bk bx false _ ?ay A4.out).mono ?_);(case ay => exact Kd.V_mk cU.out (Kd.F_below (Kd.C_F k28_heap cT.out) (bM HB.out)));rintro e dZ ⟨cW,cX,rfl,a0,b7,hb⟩;refine ⟨_,rfl,?_⟩;have aQ := aK (Kd.V_lower (Kd.V_mono (ok' := fun k_ => True) a0 (fun k_ hk_ => trivial)) (below_size (bM HB.out)));have aR := aK (Kd.V_lower (Kd.V_mono (ok' := fun k_ => True) b7 (fun k_ hk_ => trivial)) (below_size (bM HB.out)));replace HB := aK (below_step (bM HB.out) hb);(try clear hb);(try clear hk);(try clear a0);(try clear b7))|((with_reducible refine gate_dst (N := 6) rfl ?_);refine box_event ?hg (N := 6) ?hd (cs := #[.int .i64 0,.slice none 0 0,.slice none 0 0,.int .i64 0,.int .i64 0]) (t := 28) ?hr ?_;(case hd => rfl);(case hg => rfl);(case hr => first|(go_simp;done)|(go_simp;rfl));intro aa hg d0 hbox hb;replace aQ := aK (Kd.V_below (Kd.V_elderB (vM aQ.out) aa (Nat.le_of_eq hg.symm)) hb);replace aR := aK (Kd.V_below (Kd.V_elderB (vM aR.out) aa (Nat.le_of_eq hg.symm)) hb);have ai := aK (hbox);have bf := aK ((by rw [hg];exact (below_size (bM HB.out)) : w.heap.size ≤ aa));have cD := Ge.mk bf.out;have bF := aK ((by rw [hg];exact (below_size (bM HB.out)) : w.heap.size ≤ aa));have cE := Ge.mk bF.out;replace HB := aK (below_step (bM HB.out) hb);clear hb hbox hg;obtain ⟨_,_,_,_,_,_,_,_,_,_⟩ := bk5_ ai.out;obtain ⟨dQ,dR,dq⟩ := Kd.V_slice aQ.out;subst dq;obtain ⟨dS,dT,dr⟩ := Kd.V_slice aR.out;subst dr))
   go_ret2
   exact ⟨_,by first|rfl|(simp [errW_none,errW_some] <;> rfl)|(simp [*,errW_none,errW_some] <;> rfl),by first|exact Kd.R_nil _ _ _ _ _|exact Kd.N_nil _ _ _ _ _|exact Kd.V_nil _ _ _ _ _|exact Kd.Q_nil _ _ _ _ _|exact Kd.S_nil _ _ _ _ _,bG HB.out⟩

/-! ### r25_Files: function 20 -/
def r25_Files.l0 : Nat → List (S55) → List (S55) → Int → Option (Bool)
|0,_,_,_ => none
|k + 1,x0,x1,x5 => if x5 < (x0.length : Int) then (if 0 ≤ x5 then (if x5 < (x1.length : Int) then (if (!((((rd_T55 x0 x5).f0).toList) == (((rd_T55 x1 x5).f0).toList)) || (!(((rd_T55 x0 x5).f1) == ((rd_T55 x1 x5).f1)))) = true then (some false) else (r25_Files.l0 k x0 x1 (wrap64 (x5 + 1)))) else (none)) else (none)) else (some true)
def r25_Files.f (k : Nat) (l0 : List (S55)) (l1 : List (S55)) : Option (Bool) := if (l0.length : Int) = (l1.length : Int) then (r25_Files.l0 k l0 l1 0) else (some false)
theorem r25_Files.mono_l : ∀ k, (∀ y0 y1 y2, LeO (r25_Files.l0 k y0 y1 y2) (r25_Files.l0 (k + 1) y0 y1 y2))
|0 => fun _ _ _ r h => by simp [r25_Files.l0] at h
|k + 1 => by
  have ih0 := r25_Files.mono_l k
  ·intro y0 y1 y2
   unfold r25_Files.l0
   repeat' (with_reducible first|exact ih0 _ _ _|exact LeO.refl _|exact LeO.none _|refine LeO.ite ?_ ?_|refine LeO.bind ?_ (fun _ => ?_))
theorem r25_Files.mono : ∀ a0 a1 k, LeO (r25_Files.f k a0 a1) (r25_Files.f (k + 1) a0 a1) := by
 intro a0 a1 k
 have ih0 := r25_Files.mono_l k
 unfold r25_Files.f
 repeat' (with_reducible first|exact ih0 _ _ _|exact LeO.refl _|exact LeO.none _|refine LeO.ite ?_ ?_|refine LeO.bind ?_ (fun _ => ?_))
theorem r25_Files.calls (k : Nat) (A0 : Option Addr) (c0 : Nat) (l0 : List (S55)) (A1 : Option Addr) (c1 : Nat) (l1 : List (S55)) (r : Bool) (w : World) (au : Kd.C k55 w A0 l0.length l0) (av : l0.length ≤ c0) (aw : Kd.C k55 w A1 l1.length l1) (ax : l1.length ≤ c1) (h : r25_Files.f k l0 l1 = some r) :
  Calls Tryz.prog 20 #[.slice A0 l0.length c0,.slice A1 l1.length c1] w fun e w' => e = .returned (.bool r) ∧ Drawn0 w w' := by
 have aB := Tryz.underlying55
 have ay := aK au
 have aE := aK av
 clear au av
 have az := aK aw
 have aF := aK ax
 clear aw ax
 have H : (if (l0.length : Int) = (l1.length : Int) then (r25_Files.l0 k l0 l1 0) else (some false)) = some r := h
 clear h
 by_cases c3 : (l0.length : Int) = (l1.length : Int)
 ·rw [if_pos c3] at H
  have al := beq_iff_eq.mpr c3
  have am := bne_eq_false_iff_eq.mpr c3
  have an : (l0.length == l1.length) = true := by first|simpa using c3|(simp at c3 ⊢;omega)
  clear c3
  have H' := aK H
  clear H
  go_enter Tryz.func20,Tryz.ntmps20
  go_wp2
  repeat (go_quiet (fail);try go_wp2)
  go_loopg [5] k (fun kq v5 w' => ∃ (aa : Int),v5 = .int .i64 aa ∧ Aside0 (r25_Files.l0 kq l0 l1 aa = some r) ∧ Aside0 (kq ≤ k) ∧ Drawn0 w w')
  case atStart => exact ⟨(0),(by first|rfl|(simp;done)|(simp [*];done)),H',⟨Nat.le_refl _⟩,by repeat (first|exact Drawn0.refl _|apply Drawn0.step)⟩
  case round =>
   clear H'
   try clear p2
   try clear c3
   try clear al
   try clear am
   try clear an
   obtain ⟨aa,rfl,HA,aA,⟨m1,rfl⟩⟩ := hrel
   cases gk with
  |zero => exact absurd HA.out (by simp [r25_Files.l0])
  |succ k1 =>
    have H := HA.out
    clear HA
    simp only [r25_Files.l0] at H
    by_cases c4 : aa < (l0.length : Int)
    ·rw [if_pos c4] at H
     have aq := decide_eq_true c4
     clear c4
     obtain ⟨c5,H⟩ := iS H
     have aC := decide_eq_true c5
     clear c5
     obtain ⟨c6,H⟩ := iS H
     have aD := decide_eq_true c6
     clear c6
     by_cases c7 : (!((((rd_T55 l0 aa).f0).toList) == (((rd_T55 l1 aa).f0).toList)) || (!(((rd_T55 l0 aa).f1) == ((rd_T55 l1 aa).f1)))) = true
     ·rw [if_pos c7] at H
      have ar : (!((((rd_T55 l0 aa).f0).toList) == (((rd_T55 l1 aa).f0).toList)) || (!(((rd_T55 l0 aa).f1) == ((rd_T55 l1 aa).f1)))) = true := c7
      clear c7
      obtain rfl := Option.some.inj H
      have ab : 0 ≤ (aa : Int) := dA
      have ac : aa < (l0.length : Int) := dA
      obtain ⟨ao,aj,af,ag⟩ := at_T55 ay.out aa ab ac
      cases aj
      replace ab := eq_true ab
      replace ac := eq_true ac
      have ad : 0 ≤ (aa : Int) := dA
      have ae : aa < (l1.length : Int) := dA
      obtain ⟨ap,ak,ah,ai⟩ := at_T55 az.out aa ad ae
      cases ak
      replace ad := eq_true ad
      replace ae := eq_true ae
      go_wp2
      repeat (go_quiet (fail);try go_wp2)
      go_ret
      exact ⟨by first|rfl|(simp;done)|(simp [*];done),by repeat (first|exact Drawn0.refl _|apply Drawn0.step)⟩
     ·rw [if_neg c7] at H
      have ar : (!((((rd_T55 l0 aa).f0).toList) == (((rd_T55 l1 aa).f0).toList)) || (!(((rd_T55 l0 aa).f1) == ((rd_T55 l1 aa).f1)))) = false := by simpa using c7
      clear c7
      have H' := aK H
      clear H
      have ab : 0 ≤ (aa : Int) := dA
      have ac : aa < (l0.length : Int) := dA
      obtain ⟨ao,aj,af,ag⟩ := at_T55 ay.out aa ab ac
      cases aj
      replace ab := eq_true ab
      replace ac := eq_true ac
      have ad : 0 ≤ (aa : Int) := dA
      have ae : aa < (l1.length : Int) := dA
      obtain ⟨ap,ak,ah,ai⟩ := at_T55 az.out aa ad ae
      cases ak
      replace ad := eq_true ad
      replace ae := eq_true ae
      go_wp2
      repeat (go_quiet (fail);try go_wp2)
      go_roundg k1
      case measure => have := aA.out;omega
      case rel => exact ⟨(wrap64 (aa + 1)),(by first|rfl|(simp;done)|(simp [*];done)),H',⟨by have := aA.out;omega⟩,by repeat (first|exact Drawn0.refl _|apply Drawn0.step)⟩
    ·rw [if_neg c4] at H
     have aq := decide_eq_false c4
     clear c4
     obtain rfl := Option.some.inj H
     go_wp2
     repeat (go_quiet (fail);try go_wp2)
     go_ret
     exact ⟨by first|rfl|(simp;done)|(simp [*];done),by repeat (first|exact Drawn0.refl _|apply Drawn0.step)⟩
 ·rw [if_neg c3] at H
  have al := beq_eq_false_iff_ne.mpr c3
  have am := bne_iff_ne.mpr c3
  have an : (l0.length == l1.length) = false := by first|simpa using c3|(simp at c3 ⊢;omega)
  obtain rfl := Option.some.inj H
  go_enter Tryz.func20,Tryz.ntmps20
  go_wp2
  repeat (go_quiet (fail);try go_wp2)
  go_ret
  exact ⟨by first|rfl|(simp;done)|(simp [*];done),by repeat (first|exact Drawn0.refl _|apply Drawn0.step)⟩
end Go.Proofs.YtgadbpljlpclnaaGreatDoor.H
