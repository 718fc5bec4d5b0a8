import Derived.Test.YtgadbpljlpclnaaGreatDoorHx0
import Derived.Test.YtgadbpljlpclnaaGreatDoorHx6
import Derived.Test.YtgadbpljlpclnaaGreatDoorHx8
import Derived.Test.YtgadbpljlpclnaaGreatDoorHx15
import Derived.Test.YtgadbpljlpclnaaGreatDoorHx20
namespace Go.Proofs.YtgadbpljlpclnaaGreatDoor.H
open Go.RowKit Go.Proofs.YtgadbpljlpclnaaGreatDoorW.PrintWords Go.Proofs.YtgadbpljlpclnaaGreatDoorW.PrintLast Go.Proofs.YtgadbpljlpclnaaGreatDoorW.PrintMore
attribute [local go_sem] max2_int min2_int max_two min_two max_three min_three max_four min_four
set_option linter.unusedVariables false
set_option linter.unusedSimpArgs false

/-! ### l26_HistoryOrder: function 7 -/
mutual
def l26_HistoryOrder.j0 : Nat → List (S28) → Int → Int → Bool → Bool → Option (Bool)
|0,_,_,_,_,_ => none
|k + 1,x0,x5,x6,x8,ac => if ac = true then (some false) else (if x8 = true then (if x5 = 0 then (l26_HistoryOrder.j1 k x0 x5 x6 false) else ((history_Bases.f k x0 x5 x6).bind fun aa => ((r05_Same.f k aa (([x5] : List Int))).bind fun ab => (l26_HistoryOrder.j1 k x0 x5 x6 (!ab))))) else (l26_HistoryOrder.j1 k x0 x5 x6 false))
def l26_HistoryOrder.j1 : Nat → List (S28) → Int → Int → Bool → Option (Bool)
|0,_,_,_,_ => none
|k + 1,x0,x5,x6,ac => if ac = true then (some false) else ((history_Get.f k x0 x5).bind fun aa => (if aa.2.2.2.2.2 = true then (if x5 = 0 then (l26_HistoryOrder.j2 k x0 x5 x6 false aa.1 aa.2.1 aa.2.2.1 aa.2.2.2.1 aa.2.2.2.2.1) else ((history_Is.f k x0 x5 x5).bind fun ab => (l26_HistoryOrder.j2 k x0 x5 x6 (!ab) aa.1 aa.2.1 aa.2.2.1 aa.2.2.2.1 aa.2.2.2.2.1))) else (l26_HistoryOrder.j2 k x0 x5 x6 false aa.1 aa.2.1 aa.2.2.1 aa.2.2.2.1 aa.2.2.2.2.1)))
def l26_HistoryOrder.j2 : Nat → List (S28) → Int → Int → Bool → Int → List Int → List (S53) → Int → Int → Option (Bool)
|0,_,_,_,_,_,_,_,_,_ => none
|k + 1,x0,x5,x6,af,aa,ab,ac,ad,ae => if af = true then (some false) else (l26_HistoryOrder.l0 k x0 x5 x6 0 aa ab ac ad ae)
def l26_HistoryOrder.l0 : Nat → List (S28) → Int → Int → Int → Int → List Int → List (S53) → Int → Int → Option (Bool)
|0,_,_,_,_,_,_,_,_,_ => none
|k + 1,x0,x5,x6,af,ab,aa,ac,ad,ae => if af < (aa.length : Int) then (if 0 ≤ af then ((history_Is.f k x0 (rd aa af) x5).bind fun ag => (if ag = true then (l26_HistoryOrder.l0 k x0 x5 x6 (wrap64 (af + 1)) ab aa ac ad ae) else (some false))) else (none)) else ((history_Bases.f k x0 x5 x6).bind fun ah => ((history_Bases.f k x0 x6 x5).bind fun ai => ((r05_Same.f k ah ai).bind fun aj => (some aj))))
end
def l26_HistoryOrder.f (k : Nat) (l0 : List (S28)) (aa : Int) (ab : Int) (ad : Int) : Option (Bool) := (l26_alive.f k).bind fun ae => (if ae = true then ((l26_right.f k l0).bind fun af => (if af = true then ((history_Is.f k l0 aa ab).bind fun ac => ((history_Is.f k l0 ab ad).bind fun ag => (if ac = true then (if ag = true then ((history_Is.f k l0 aa ad).bind fun ah => (if ah = true then ((history_Is.f k l0 ab aa).bind fun ai => (if ai = true then (l26_HistoryOrder.j0 k l0 aa ab ac (aa != ab)) else (l26_HistoryOrder.j0 k l0 aa ab ac false))) else (l26_HistoryOrder.j0 k l0 aa ab ac true))) else ((history_Is.f k l0 ab aa).bind fun aj => (if aj = true then (l26_HistoryOrder.j0 k l0 aa ab ac (aa != ab)) else (l26_HistoryOrder.j0 k l0 aa ab ac false)))) else (l26_HistoryOrder.j0 k l0 aa ab ac false)))) else (some true))) else (some false))
theorem l26_HistoryOrder.mono_l : ∀ k, (∀ y0 y1 y2 y3 y4, LeO (l26_HistoryOrder.j0 k y0 y1 y2 y3 y4) (l26_HistoryOrder.j0 (k + 1) y0 y1 y2 y3 y4)) ∧ (∀ y0 y1 y2 y3, LeO (l26_HistoryOrder.j1 k y0 y1 y2 y3) (l26_HistoryOrder.j1 (k + 1) y0 y1 y2 y3)) ∧ (∀ y0 y1 y2 y3 y4 y5 y6 y7 y8, LeO (l26_HistoryOrder.j2 k y0 y1 y2 y3 y4 y5 y6 y7 y8) (l26_HistoryOrder.j2 (k + 1) y0 y1 y2 y3 y4 y5 y6 y7 y8)) ∧ (∀ y0 y1 y2 y3 y4 y5 y6 y7 y8, LeO (l26_HistoryOrder.l0 k y0 y1 y2 y3 y4 y5 y6 y7 y8) (l26_HistoryOrder.l0 (k + 1) y0 y1 y2 y3 y4 y5 y6 y7 y8))
|0 => ⟨fun _ _ _ _ _ r h => by simp [l26_HistoryOrder.j0] at h,fun _ _ _ _ r h => by simp [l26_HistoryOrder.j1] at h,fun _ _ _ _ _ _ _ _ _ r h => by simp [l26_HistoryOrder.j2] at h,fun _ _ _ _ _ _ _ _ _ r h => by simp [l26_HistoryOrder.l0] at h⟩
|k + 1 => by
  obtain ⟨ih0,ih1,ih2,ih3⟩ := l26_HistoryOrder.mono_l k
  refine ⟨?_,?_,?_,?_⟩
  ·intro y0 y1 y2 y3 y4
   unfold l26_HistoryOrder.j0
   repeat' (with_reducible first|exact ih1 _ _ _ _|exact r05_Same.mono _ _ _|exact history_Bases.mono _ _ _ _|exact LeO.refl _|exact LeO.none _|refine LeO.ite ?_ ?_|refine LeO.bind ?_ (fun _ => ?_))
  ·intro y0 y1 y2 y3
   unfold l26_HistoryOrder.j1
   repeat' (with_reducible first|exact ih2 _ _ _ _ _ _ _ _ _|exact history_Get.mono _ _ _|exact history_Is.mono _ _ _ _|exact LeO.refl _|exact LeO.none _|refine LeO.ite ?_ ?_|refine LeO.bind ?_ (fun _ => ?_))
  ·intro y0 y1 y2 y3 y4 y5 y6 y7 y8
   unfold l26_HistoryOrder.j2
   repeat' (with_reducible first|exact ih3 _ _ _ _ _ _ _ _ _|exact LeO.refl _|exact LeO.none _|refine LeO.ite ?_ ?_|refine LeO.bind ?_ (fun _ => ?_))
  ·intro y0 y1 y2 y3 y4 y5 y6 y7 y8
   unfold l26_HistoryOrder.l0
   repeat' (with_reducible first|exact ih3 _ _ _ _ _ _ _ _ _|exact r05_Same.mono _ _ _|exact history_Bases.mono _ _ _ _|exact history_Is.mono _ _ _ _|exact LeO.refl _|exact LeO.none _|refine LeO.ite ?_ ?_|refine LeO.bind ?_ (fun _ => ?_))
theorem l26_HistoryOrder.mono : ∀ a0 a1 a2 a3 k, LeO (l26_HistoryOrder.f k a0 a1 a2 a3) (l26_HistoryOrder.f (k + 1) a0 a1 a2 a3) := by
 intro a0 a1 a2 a3 k
 obtain ⟨ih0,ih1,ih2,ih3⟩ := l26_HistoryOrder.mono_l k
 unfold l26_HistoryOrder.f
 repeat' (with_reducible first|exact ih0 _ _ _ _ _|exact ih1 _ _ _ _|exact ih2 _ _ _ _ _ _ _ _ _|exact ih3 _ _ _ _ _ _ _ _ _|exact l26_alive.mono _|exact l26_right.mono _ _|exact r05_Same.mono _ _ _|exact history_Bases.mono _ _ _ _|exact history_Get.mono _ _ _|exact history_Is.mono _ _ _ _|exact LeO.refl _|exact LeO.none _|refine LeO.ite ?_ ?_|refine LeO.bind ?_ (fun _ => ?_))
set_option maxHeartbeats 4000000 in
set_option maxRecDepth 100000 in
theorem l26_HistoryOrder.calls (k : Nat) (A0 : Option Addr) (c0 : Nat) (l0 : List (S28)) (af : Int) (ah : Int) (an : Int) (r : Bool) (w : World) (cT : Kd.C k28 w A0 l0.length l0) (cU : l0.length ≤ c0) (h : l26_HistoryOrder.f k l0 af ah an = some r) :
  Calls Tryz.prog 7 #[.slice A0 l0.length c0,.agg #[.int .i64 af,.int .i64 ah,.int .i64 an]] w fun e w' => e = .returned (.bool r) ∧ Below w.heap.size w w' := by
 have dJ := Tryz.underlying49
 have dK := Tryz.underlying28
 have aC := aK cT
 have aD := aK cU
 clear cT cU
 have HB := aK (Below.refl w.heap.size w)
 unfold l26_HistoryOrder.f at h
 have H := h
 clear h
 replace H := Option.bind_eq_some_iff.mp H
 obtain ⟨cD,cV,H⟩ := H
 have A3 := aK cV
 clear cV
 by_cases c4 : cD = true
 ·subst c4
  rw [if_pos rfl] at H
  replace H := Option.bind_eq_some_iff.mp H
  obtain ⟨cE,cW,H⟩ := H
  have A5 := aK cW
  clear cW
  by_cases c6 : cE = true
  ·subst c6
   rw [if_pos rfl] at H
   replace H := Option.bind_eq_some_iff.mp H
   obtain ⟨bi,cX,H⟩ := H
   have A7 := aK cX
   clear cX
   replace H := Option.bind_eq_some_iff.mp H
   obtain ⟨bC,cY,H⟩ := H
   have A8 := aK cY
   clear cY
   have cF := aK H
   clear H
   go_enter Tryz.func7,Tryz.ntmps7
   go_upto_region 7 with (first|((with_reducible refine gate_dst (N := 3) rfl ?_);(try (refine gate_guard (by rfl) ?_;dsimp only));refine box_event ?hg (N := 3) ?hd (cs := #[.int .i64 af,.int .i64 ah,.int .i64 an]) (t := 49) ?hr ?_;(case hd => rfl);(case hg => rfl);(case hr => first|(go_simp;done)|(go_simp;rfl));intro ag hg cZ hbox hb;have aa := aK (hbox);have ao := aK ((by rw [hg];exact (below_size (bM HB.out)) : w.heap.size ≤ ag));have aO := Ge.mk ao.out;have aE := aK ((by rw [hg];exact (below_size (bM HB.out)) : w.heap.size ≤ ag));have aP := Ge.mk aE.out;replace HB := aK (below_step (bM HB.out) hb);clear hb hbox hg)|(go_at_call 10;(with_reducible refine (l26_alive.calls k  true _ A3.out).mono ?_);rintro e c1 ⟨rfl,hb⟩;replace aa := aK (blk_below (kM aa.out) hb);replace HB := aK (below_step (bG HB.out) hb);(try clear hb);(try clear hk))|(go_at_call 17;(with_reducible refine (l26_right.calls k _ _ l0 true _ ?ab ?ac A5.out).mono ?_);(case ab => exact cM (Kd.C_below aC.out HB.out));(case ac => exact aD.out);rintro e da ⟨rfl,hb⟩;replace aa := aK (blk_below (kM aa.out) hb);replace HB := aK (below_step (bG HB.out) hb);(try clear hb);(try clear hk);obtain ⟨aR,aS,aT,aU,aV,aW⟩ := bk3_ aa.out)|(go_at_call 24;(with_reducible refine (history_Is.calls k _ _ l0 af ah bi _ ?ab ?ac A7.out).mono ?_);(case ab => exact cM (Kd.C_below aC.out HB.out));(case ac => exact aD.out);rintro e db ⟨rfl,hb⟩;replace aa := aK (blk_below (kM aa.out) hb);replace HB := aK (below_step (bG HB.out) hb);(try clear hb);(try clear hk))|(go_at_call 24;(with_reducible refine (history_Is.calls k _ _ l0 ah an bC _ ?ab ?ac A8.out).mono ?_);(case ab => exact cM (Kd.C_below aC.out HB.out));(case ac => exact aD.out);rintro e dc ⟨rfl,hb⟩;replace aa := aK (blk_below (kM aa.out) hb);replace HB := aK (below_step (bG HB.out) hb);(try clear hb);(try clear hk)))
   repeat (go_quiet (first|((with_reducible refine gate_dst (N := 3) rfl ?_);(try (refine gate_guard (by rfl) ?_;dsimp only));refine box_event ?hg (N := 3) ?hd (cs := #[.int .i64 af,.int .i64 ah,.int .i64 an]) (t := 49) ?hr ?_;(case hd => rfl);(case hg => rfl);(case hr => first|(go_simp;done)|(go_simp;rfl));intro ag hg cZ hbox hb;have aa := aK (hbox);have ao := aK ((by rw [hg];exact (below_size (bM HB.out)) : w.heap.size ≤ ag));have aO := Ge.mk ao.out;have aE := aK ((by rw [hg];exact (below_size (bM HB.out)) : w.heap.size ≤ ag));have aP := Ge.mk aE.out;replace HB := aK (below_step (bM HB.out) hb);clear hb hbox hg)|(go_at_call 10;(with_reducible refine (l26_alive.calls k  true _ A3.out).mono ?_);rintro e c1 ⟨rfl,hb⟩;replace aa := aK (blk_below (kM aa.out) hb);replace HB := aK (below_step (bG HB.out) hb);(try clear hb);(try clear hk))|(go_at_call 17;(with_reducible refine (l26_right.calls k _ _ l0 true _ ?ab ?ac A5.out).mono ?_);(case ab => exact cM (Kd.C_below aC.out HB.out));(case ac => exact aD.out);rintro e da ⟨rfl,hb⟩;replace aa := aK (blk_below (kM aa.out) hb);replace HB := aK (below_step (bG HB.out) hb);(try clear hb);(try clear hk);obtain ⟨aR,aS,aT,aU,aV,aW⟩ := bk3_ aa.out)|(go_at_call 24;(with_reducible refine (history_Is.calls k _ _ l0 af ah bi _ ?ab ?ac A7.out).mono ?_);(case ab => exact cM (Kd.C_below aC.out HB.out));(case ac => exact aD.out);rintro e db ⟨rfl,hb⟩;replace aa := aK (blk_below (kM aa.out) hb);replace HB := aK (below_step (bG HB.out) hb);(try clear hb);(try clear hk))|(go_at_call 24;(with_reducible refine (history_Is.calls k _ _ l0 ah an bC _ ?ab ?ac A8.out).mono ?_);(case ab => exact cM (Kd.C_below aC.out HB.out));(case ac => exact aD.out);rintro e dc ⟨rfl,hb⟩;replace aa := aK (blk_below (kM aa.out) hb);replace HB := aK (below_step (bG HB.out) hb);(try clear hb);(try clear hk)));go_upto_region 7 with (first|((with_reducible refine gate_dst (N := 3) rfl ?_);(try (refine gate_guard (by rfl) ?_;dsimp only));refine box_event ?hg (N := 3) ?hd (cs := #[.int .i64 af,.int .i64 ah,.int .i64 an]) (t := 49) ?hr ?_;(case hd => rfl);(case hg => rfl);(case hr => first|(go_simp;done)|(go_simp;rfl));intro ag hg cZ hbox hb;have aa := aK (hbox);have ao := aK ((by rw [hg];exact (below_size (bM HB.out)) : w.heap.size ≤ ag));have aO := Ge.mk ao.out;have aE := aK ((by rw [hg];exact (below_size (bM HB.out)) : w.heap.size ≤ ag));have aP := Ge.mk aE.out;replace HB := aK (below_step (bM HB.out) hb);clear hb hbox hg)|(go_at_call 10;(with_reducible refine (l26_alive.calls k  true _ A3.out).mono ?_);rintro e c1 ⟨rfl,hb⟩;replace aa := aK (blk_below (kM aa.out) hb);replace HB := aK (below_step (bG HB.out) hb);(try clear hb);(try clear hk))|(go_at_call 17;(with_reducible refine (l26_right.calls k _ _ l0 true _ ?ab ?ac A5.out).mono ?_);(case ab => exact cM (Kd.C_below aC.out HB.out));(case ac => exact aD.out);rintro e da ⟨rfl,hb⟩;replace aa := aK (blk_below (kM aa.out) hb);replace HB := aK (below_step (bG HB.out) hb);(try clear hb);(try clear hk);obtain ⟨aR,aS,aT,aU,aV,aW⟩ := bk3_ aa.out)|(go_at_call 24;(with_reducible refine (history_Is.calls k _ _ l0 af ah bi _ ?ab ?ac A7.out).mono ?_);(case ab => exact cM (Kd.C_below aC.out HB.out));(case ac => exact aD.out);rintro e db ⟨rfl,hb⟩;replace aa := aK (blk_below (kM aa.out) hb);replace HB := aK (below_step (bG HB.out) hb);(try clear hb);(try clear hk))|(go_at_call 24;(with_reducible refine (history_Is.calls k _ _ l0 ah an bC _ ?ab ?ac A8.out).mono ?_);(case ab => exact cM (Kd.C_below aC.out HB.out));(case ac => exact aD.out);rintro e dc ⟨rfl,hb⟩;replace aa := aK (blk_below (kM aa.out) hb);replace HB := aK (below_step (bG HB.out) hb);(try clear hb);(try clear hk))))
   (try simp only [Act.put,z1_,z2_,z3_])
   go_cut [56] (fun dL wc => ∃ (kq : Nat) (bh : Bool),dL = .bool bh ∧ Aside0 (l26_HistoryOrder.j0 kq l0 af ah bi bh = some r) ∧ Aside0 (kq ≤ k) ∧ Aside0 (wc.heap[ag]? = some (.cells #[.int .i64 af,.int .i64 ah,.int .i64 an] 49 (0,0))) ∧ Aside0 (Below w.heap.size w wc))
   case first =>
    have H := cF.out
    clear cF
    by_cases cv : bi = true
    ·subst cv
     rw [if_pos rfl] at H
     by_cases cw : bC = true
     ·subst cw
      rw [if_pos rfl] at H
      replace H := Option.bind_eq_some_iff.mp H
      obtain ⟨cG,bY,H⟩ := H
      have bD := aK bY
      clear bY
      by_cases cx : cG = true
      ·subst cx
       rw [if_pos rfl] at H
       replace H := Option.bind_eq_some_iff.mp H
       obtain ⟨cH,bZ,H⟩ := H
       have bU := aK bZ
       clear bZ
       by_cases cy : cH = true
       ·subst cy
        rw [if_pos rfl] at H
        have H' := aK H
        clear H
        go_wp2_with (first|(go_at_call 24;(with_reducible refine (history_Is.calls k _ _ l0 af an true _ ?ab ?ac bD.out).mono ?_);(case ab => exact cM (Kd.C_below aC.out HB.out));(case ac => exact aD.out);rintro e dd ⟨rfl,hb⟩;replace aa := aK (blk_below (kM aa.out) hb);replace HB := aK (below_step (bG HB.out) hb);(try clear hb);(try clear hk))|(go_at_call 24;(with_reducible refine (history_Is.calls k _ _ l0 ah af true _ ?ab ?ac bU.out).mono ?_);(case ab => exact cM (Kd.C_below aC.out HB.out));(case ac => exact aD.out);rintro e de ⟨rfl,hb⟩;replace aa := aK (blk_below (kM aa.out) hb);replace HB := aK (below_step (bG HB.out) hb);(try clear hb);(try clear hk)))
        repeat (go_quiet (first|(go_at_call 24;(with_reducible refine (history_Is.calls k _ _ l0 af an true _ ?ab ?ac bD.out).mono ?_);(case ab => exact cM (Kd.C_below aC.out HB.out));(case ac => exact aD.out);rintro e dd ⟨rfl,hb⟩;replace aa := aK (blk_below (kM aa.out) hb);replace HB := aK (below_step (bG HB.out) hb);(try clear hb);(try clear hk))|(go_at_call 24;(with_reducible refine (history_Is.calls k _ _ l0 ah af true _ ?ab ?ac bU.out).mono ?_);(case ab => exact cM (Kd.C_below aC.out HB.out));(case ac => exact aD.out);rintro e de ⟨rfl,hb⟩;replace aa := aK (blk_below (kM aa.out) hb);replace HB := aK (below_step (bG HB.out) hb);(try clear hb);(try clear hk)));try go_wp2_with (first|(go_at_call 24;(with_reducible refine (history_Is.calls k _ _ l0 af an true _ ?ab ?ac bD.out).mono ?_);(case ab => exact cM (Kd.C_below aC.out HB.out));(case ac => exact aD.out);rintro e dd ⟨rfl,hb⟩;replace aa := aK (blk_below (kM aa.out) hb);replace HB := aK (below_step (bG HB.out) hb);(try clear hb);(try clear hk))|(go_at_call 24;(with_reducible refine (history_Is.calls k _ _ l0 ah af true _ ?ab ?ac bU.out).mono ?_);(case ab => exact cM (Kd.C_below aC.out HB.out));(case ac => exact aD.out);rintro e de ⟨rfl,hb⟩;replace aa := aK (blk_below (kM aa.out) hb);replace HB := aK (below_step (bG HB.out) hb);(try clear hb);(try clear hk))))
        go_meet
        case rel => exact ⟨_,((af != ah)),(by first|rfl|(simp;done)|(simp [*];done)),H',⟨by first|omega|exact Nat.le_refl _⟩,⟨kM aa.out⟩,⟨bG HB.out⟩⟩
       ·replace cy := Bool.eq_false_iff.mpr cy
        subst cy
        rw [if_neg (show ¬ (false = true) by decide)] at H
        have H' := aK H
        clear H
        go_wp2_with (first|(go_at_call 24;(with_reducible refine (history_Is.calls k _ _ l0 af an true _ ?ab ?ac bD.out).mono ?_);(case ab => exact cM (Kd.C_below aC.out HB.out));(case ac => exact aD.out);rintro e df ⟨rfl,hb⟩;replace aa := aK (blk_below (kM aa.out) hb);replace HB := aK (below_step (bG HB.out) hb);(try clear hb);(try clear hk))|(go_at_call 24;(with_reducible refine (history_Is.calls k _ _ l0 ah af false _ ?ab ?ac bU.out).mono ?_);(case ab => exact cM (Kd.C_below aC.out HB.out));(case ac => exact aD.out);rintro e dg ⟨rfl,hb⟩;replace aa := aK (blk_below (kM aa.out) hb);replace HB := aK (below_step (bG HB.out) hb);(try clear hb);(try clear hk)))
        repeat (go_quiet (first|(go_at_call 24;(with_reducible refine (history_Is.calls k _ _ l0 af an true _ ?ab ?ac bD.out).mono ?_);(case ab => exact cM (Kd.C_below aC.out HB.out));(case ac => exact aD.out);rintro e df ⟨rfl,hb⟩;replace aa := aK (blk_below (kM aa.out) hb);replace HB := aK (below_step (bG HB.out) hb);(try clear hb);(try clear hk))|(go_at_call 24;(with_reducible refine (history_Is.calls k _ _ l0 ah af false _ ?ab ?ac bU.out).mono ?_);(case ab => exact cM (Kd.C_below aC.out HB.out));(case ac => exact aD.out);rintro e dg ⟨rfl,hb⟩;replace aa := aK (blk_below (kM aa.out) hb);replace HB := aK (below_step (bG HB.out) hb);(try clear hb);(try clear hk)));try go_wp2_with (first|(go_at_call 24;(with_reducible refine (history_Is.calls k _ _ l0 af an true _ ?ab ?ac bD.out).mono ?_);(case ab => exact cM (Kd.C_below aC.out HB.out));(case ac => exact aD.out);rintro e df ⟨rfl,hb⟩;replace aa := aK (blk_below (kM aa.out) hb);replace HB := aK (below_step (bG HB.out) hb);(try clear hb);(try clear hk))|(go_at_call 24;(with_reducible refine (history_Is.calls k _ _ l0 ah af false _ ?ab ?ac bU.out).mono ?_);(case ab => exact cM (Kd.C_below aC.out HB.out));(case ac => exact aD.out);rintro e dg ⟨rfl,hb⟩;replace aa := aK (blk_below (kM aa.out) hb);replace HB := aK (below_step (bG HB.out) hb);(try clear hb);(try clear hk))))
        go_meet
        case rel => exact ⟨_,(false),(by first|rfl|(simp;done)|(simp [*];done)),H',⟨by first|omega|exact Nat.le_refl _⟩,⟨kM aa.out⟩,⟨bG HB.out⟩⟩
      ·replace cx := Bool.eq_false_iff.mpr cx
       subst cx
       rw [if_neg (show ¬ (false = true) by decide)] at H
       have H' := aK H
       clear H
       go_wp2_with (first|(go_at_call 24;(with_reducible refine (history_Is.calls k _ _ l0 af an false _ ?ab ?ac bD.out).mono ?_);(case ab => exact cM (Kd.C_below aC.out HB.out));(case ac => exact aD.out);rintro e dh ⟨rfl,hb⟩;replace aa := aK (blk_below (kM aa.out) hb);replace HB := aK (below_step (bG HB.out) hb);(try clear hb);(try clear hk)))
       repeat (go_quiet (first|(go_at_call 24;(with_reducible refine (history_Is.calls k _ _ l0 af an false _ ?ab ?ac bD.out).mono ?_);(case ab => exact cM (Kd.C_below aC.out HB.out));(case ac => exact aD.out);rintro e dh ⟨rfl,hb⟩;replace aa := aK (blk_below (kM aa.out) hb);replace HB := aK (below_step (bG HB.out) hb);(try clear hb);(try clear hk)));try go_wp2_with (first|(go_at_call 24;(with_reducible refine (history_Is.calls k _ _ l0 af an false _ ?ab ?ac bD.out).mono ?_);(case ab => exact cM (Kd.C_below aC.out HB.out));(case ac => exact aD.out);rintro e dh ⟨rfl,hb⟩;replace aa := aK (blk_below (kM aa.out) hb);replace HB := aK (below_step (bG HB.out) hb);(try clear hb);(try clear hk))))
       go_meet
       case rel => exact ⟨_,(true),(by first|rfl|(simp;done)|(simp [*];done)),H',⟨by first|omega|exact Nat.le_refl _⟩,⟨kM aa.out⟩,⟨bG HB.out⟩⟩
     ·replace cw := Bool.eq_false_iff.mpr cw
      subst cw
      rw [if_neg (show ¬ (false = true) by decide)] at H
      replace H := Option.bind_eq_some_iff.mp H
      obtain ⟨cI,b1,H⟩ := H
      have bV := aK b1
      clear b1
      by_cases cz : cI = true
      ·subst cz
       rw [if_pos rfl] at H
       have H' := aK H
       clear H
       go_wp2_with (first|(go_at_call 24;(with_reducible refine (history_Is.calls k _ _ l0 ah af true _ ?ab ?ac bV.out).mono ?_);(case ab => exact cM (Kd.C_below aC.out HB.out));(case ac => exact aD.out);rintro e di ⟨rfl,hb⟩;replace aa := aK (blk_below (kM aa.out) hb);replace HB := aK (below_step (bG HB.out) hb);(try clear hb);(try clear hk)))
       repeat (go_quiet (first|(go_at_call 24;(with_reducible refine (history_Is.calls k _ _ l0 ah af true _ ?ab ?ac bV.out).mono ?_);(case ab => exact cM (Kd.C_below aC.out HB.out));(case ac => exact aD.out);rintro e di ⟨rfl,hb⟩;replace aa := aK (blk_below (kM aa.out) hb);replace HB := aK (below_step (bG HB.out) hb);(try clear hb);(try clear hk)));try go_wp2_with (first|(go_at_call 24;(with_reducible refine (history_Is.calls k _ _ l0 ah af true _ ?ab ?ac bV.out).mono ?_);(case ab => exact cM (Kd.C_below aC.out HB.out));(case ac => exact aD.out);rintro e di ⟨rfl,hb⟩;replace aa := aK (blk_below (kM aa.out) hb);replace HB := aK (below_step (bG HB.out) hb);(try clear hb);(try clear hk))))
       go_meet
       case rel => exact ⟨_,((af != ah)),(by first|rfl|(simp;done)|(simp [*];done)),H',⟨by first|omega|exact Nat.le_refl _⟩,⟨kM aa.out⟩,⟨bG HB.out⟩⟩
      ·replace cz := Bool.eq_false_iff.mpr cz
       subst cz
       rw [if_neg (show ¬ (false = true) by decide)] at H
       have H' := aK H
       clear H
       go_wp2_with (first|(go_at_call 24;(with_reducible refine (history_Is.calls k _ _ l0 ah af false _ ?ab ?ac bV.out).mono ?_);(case ab => exact cM (Kd.C_below aC.out HB.out));(case ac => exact aD.out);rintro e dj ⟨rfl,hb⟩;replace aa := aK (blk_below (kM aa.out) hb);replace HB := aK (below_step (bG HB.out) hb);(try clear hb);(try clear hk)))
       repeat (go_quiet (first|(go_at_call 24;(with_reducible refine (history_Is.calls k _ _ l0 ah af false _ ?ab ?ac bV.out).mono ?_);(case ab => exact cM (Kd.C_below aC.out HB.out));(case ac => exact aD.out);rintro e dj ⟨rfl,hb⟩;replace aa := aK (blk_below (kM aa.out) hb);replace HB := aK (below_step (bG HB.out) hb);(try clear hb);(try clear hk)));try go_wp2_with (first|(go_at_call 24;(with_reducible refine (history_Is.calls k _ _ l0 ah af false _ ?ab ?ac bV.out).mono ?_);(case ab => exact cM (Kd.C_below aC.out HB.out));(case ac => exact aD.out);rintro e dj ⟨rfl,hb⟩;replace aa := aK (blk_below (kM aa.out) hb);replace HB := aK (below_step (bG HB.out) hb);(try clear hb);(try clear hk))))
       go_meet
       case rel => exact ⟨_,(false),(by first|rfl|(simp;done)|(simp [*];done)),H',⟨by first|omega|exact Nat.le_refl _⟩,⟨kM aa.out⟩,⟨bG HB.out⟩⟩
    ·replace cv := Bool.eq_false_iff.mpr cv
     subst cv
     rw [if_neg (show ¬ (false = true) by decide)] at H
     have H' := aK H
     clear H
     go_wp2
     repeat (go_quiet (fail);try go_wp2)
     go_meet
     case rel => exact ⟨_,(false),(by first|rfl|(simp;done)|(simp [*];done)),H',⟨by first|omega|exact Nat.le_refl _⟩,⟨kM aa.out⟩,⟨bG HB.out⟩⟩
   case rest =>
    clear cF
    try clear p2
    try clear c4
    try clear c6
    try clear aR
    try clear aS
    try clear aT
    try clear aU
    try clear aV
    try clear aW
    obtain ⟨kq,bh,rfl,HA,bH,aa,HB⟩ := hcut
    cases kq with
   |zero => exact absurd HA.out (by simp [l26_HistoryOrder.j0])
   |succ kj8 =>
     have H := HA.out
     clear HA
     simp only [l26_HistoryOrder.j0] at H
     by_cases b2 : bh = true
     ·subst b2
      rw [if_pos rfl] at H
      obtain rfl := Option.some.inj H
      go_wp2
      repeat (go_quiet (fail);try go_wp2)
      go_ret
      exact ⟨by first|rfl|(simp [errW_none,errW_some] <;> rfl)|(simp [*,errW_none,errW_some] <;> rfl),bG HB.out⟩
     ·replace b2 := Bool.eq_false_iff.mpr b2
      subst b2
      rw [if_neg (show ¬ (false = true) by decide)] at H
      have bO := aK H
      clear H
      go_upto_region 9 with (fail)
      repeat (go_quiet (fail);go_upto_region 9 with (fail))
      go_cut [71] (fun dM wc => ∃ (kq : Nat) (aX : Bool),dM = .bool aX ∧ Aside0 (l26_HistoryOrder.j1 kq l0 af ah aX = some r) ∧ Aside0 (kq ≤ kj8) ∧ Aside0 (wc.heap[ag]? = some (.cells #[.int .i64 af,.int .i64 ah,.int .i64 an] 49 (0,0))) ∧ Aside0 (Below w.heap.size w wc))
      case first =>
       have H := bO.out
       clear bO
       by_cases cA : bi = true
       ·subst cA
        rw [if_pos rfl] at H
        by_cases bP : af = 0
        ·rw [if_pos bP] at H
         have a9 := beq_iff_eq.mpr bP
         have bo := bne_eq_false_iff_eq.mpr bP
         clear bP
         (first|rw [a9]|(simp only [i64_w,i32_w];rw [a9])|rw [bo]|skip)
         have H' := aK H
         clear H
         go_wp2
         repeat (go_quiet (fail);try go_wp2)
         go_meet
         case rel => exact ⟨_,(false),(by first|rfl|(simp;done)|(simp [*];done)),H',⟨by have := bH.out;first|omega|exact Nat.le_refl _⟩,⟨kM aa.out⟩,⟨bG HB.out⟩⟩
        ·rw [if_neg bP] at H
         have a9 := beq_eq_false_iff_ne.mpr bP
         have bo := bne_iff_ne.mpr bP
         (first|rw [a9]|(simp only [i64_w,i32_w];rw [a9])|rw [bo]|skip)
         replace H := Option.bind_eq_some_iff.mp H
         obtain ⟨be,b3,H⟩ := H
         have cJ := aK b3
         clear b3
         obtain ⟨bE,ba⟩ : ∃ y_ : List Int,y_ = (([af] : List Int)) := ⟨_,rfl⟩
         replace H : ((r05_Same.f kj8 be bE).bind fun bj => (l26_HistoryOrder.j1 kj8 l0 af ah (!bj))) = some r := by first|(rw [ba];with_reducible exact H)|(have cK := (Option.bind_some _ _).symm.trans H;rw [ba];with_reducible exact cK)|(have cK := (Option.bind_some _ _).symm.trans H;with_reducible exact cK)|with_reducible exact H|(rw [ba];exact H)|exact H
         have aQ := aK ba
         clear ba
         replace H := Option.bind_eq_some_iff.mp H
         obtain ⟨bj,b4,H⟩ := H
         have cL := aK b4
         clear b4
         have H' := aK H
         clear H
         go_wp2_with (first|(go_at_call 28;(with_reducible refine (history_Bases.calls kj8 _ _ l0 af ah be _ ?ab ?ac cJ.out).mono ?_);(case ab => exact cM (Kd.C_below aC.out HB.out));(case ac => exact aD.out);rintro e dk ⟨b5,rfl,aI,hb⟩;have au := aK (Kd.R_lower aI (below_size (bG HB.out)));replace aa := aK (blk_below (kM aa.out) hb);replace HB := aK (below_step (bG HB.out) hb);(try clear hb);(try clear hk);(try clear aI))|((with_reducible refine gate_dst (N := 68) rfl ?_);(try (refine gate_guard (by rfl) ?_;dsimp only));refine Kd.R_lit (Kd.int .i64) _ 3 ?hg (N := 68) ?hd (xs := ([af] : List Int)) (inner := [.int .i64 af]) (ok := fun _ => True) (okp := fun _ => True) ?hr ?hp (fun _ hk => hk) trivial (Below.refl _ _) (Nat.le_refl _) (by simp) ?_;(case hd => rfl);(case hg => rfl);(case hr => first|(go_simp;done)|(go_simp;rfl));(case hp => exact (Reps.one (show Kd.M (Kd.int .i64) _ _ _ af [.int .i64 af] from rfl) (Reps.none _ _)));intro b6 dl aH hb hg_ hnew_;clear hg_ hnew_;(first|rw [← aQ.out] at aH|(simp only [Int.reduceToNat] at aH;rw [← aQ.out] at aH));have aJ := aK (Kd.R_lower (Kd.R_new' aH (Kd.R_lt (rM au.out))) (below_size (bG HB.out)));replace au := aK (Kd.R_elder' (rM au.out) (Kd.R_base aH) hb);replace aa := aK (blk_below (kM aa.out) hb);replace HB := aK (below_step (bG HB.out) hb);clear hb aH;obtain ⟨b7,b8,bp⟩ := Kd.R_slice au.out;subst bp;obtain ⟨b9,ca,bq⟩ := Kd.R_slice aJ.out;subst bq)|(go_at_call 21;(with_reducible refine (r05_Same.calls kj8 _ _ be _ _ bE bj _ ?ab ?ac ?aL ?aM cL.out).mono ?_);(case ab => exact cM (Kd.R_reads' au.out).2.2);(case ac => exact (Kd.R_reads' au.out).2.1);(case aL => exact cM (Kd.R_reads' aJ.out).2.2);(case aM => exact (Kd.R_reads' aJ.out).2.1);rintro e w' ⟨rfl,⟨nd,rfl⟩⟩;(try first|exact ⟨rfl,_,World.drewN_drewN _ _ _⟩|exact ⟨rfl,_,Eq.trans (World.drewN_drewN _ _ _) (congrArg (World.drewN _) (Nat.add_assoc _ _ _))⟩)))
         repeat (go_quiet (first|(go_at_call 28;(with_reducible refine (history_Bases.calls kj8 _ _ l0 af ah be _ ?ab ?ac cJ.out).mono ?_);(case ab => exact cM (Kd.C_below aC.out HB.out));(case ac => exact aD.out);rintro e dk ⟨b5,rfl,aI,hb⟩;have au := aK (Kd.R_lower aI (below_size (bG HB.out)));replace aa := aK (blk_below (kM aa.out) hb);replace HB := aK (below_step (bG HB.out) hb);(try clear hb);(try clear hk);(try clear aI))|((with_reducible refine gate_dst (N := 68) rfl ?_);(try (refine gate_guard (by rfl) ?_;dsimp only));refine Kd.R_lit (Kd.int .i64) _ 3 ?hg (N := 68) ?hd (xs := ([af] : List Int)) (inner := [.int .i64 af]) (ok := fun _ => True) (okp := fun _ => True) ?hr ?hp (fun _ hk => hk) trivial (Below.refl _ _) (Nat.le_refl _) (by simp) ?_;(case hd => rfl);(case hg => rfl);(case hr => first|(go_simp;done)|(go_simp;rfl));(case hp => exact (Reps.one (show Kd.M (Kd.int .i64) _ _ _ af [.int .i64 af] from rfl) (Reps.none _ _)));intro b6 dl aH hb hg_ hnew_;clear hg_ hnew_;(first|rw [← aQ.out] at aH|(simp only [Int.reduceToNat] at aH;rw [← aQ.out] at aH));have aJ := aK (Kd.R_lower (Kd.R_new' aH (Kd.R_lt (rM au.out))) (below_size (bG HB.out)));replace au := aK (Kd.R_elder' (rM au.out) (Kd.R_base aH) hb);replace aa := aK (blk_below (kM aa.out) hb);replace HB := aK (below_step (bG HB.out) hb);clear hb aH;obtain ⟨b7,b8,bp⟩ := Kd.R_slice au.out;subst bp;obtain ⟨b9,ca,bq⟩ := Kd.R_slice aJ.out;subst bq)|(go_at_call 21;(with_reducible refine (r05_Same.calls kj8 _ _ be _ _ bE bj _ ?ab ?ac ?aL ?aM cL.out).mono ?_);(case ab => exact cM (Kd.R_reads' au.out).2.2);(case ac => exact (Kd.R_reads' au.out).2.1);(case aL => exact cM (Kd.R_reads' aJ.out).2.2);(case aM => exact (Kd.R_reads' aJ.out).2.1);rintro e w' ⟨rfl,⟨nd,rfl⟩⟩;(try first|exact ⟨rfl,_,World.drewN_drewN _ _ _⟩|exact ⟨rfl,_,Eq.trans (World.drewN_drewN _ _ _) (congrArg (World.drewN _) (Nat.add_assoc _ _ _))⟩)));try go_wp2_with (first|(go_at_call 28;(with_reducible refine (history_Bases.calls kj8 _ _ l0 af ah be _ ?ab ?ac cJ.out).mono ?_);(case ab => exact cM (Kd.C_below aC.out HB.out));(case ac => exact aD.out);rintro e dk ⟨b5,rfl,aI,hb⟩;have au := aK (Kd.R_lower aI (below_size (bG HB.out)));replace aa := aK (blk_below (kM aa.out) hb);replace HB := aK (below_step (bG HB.out) hb);(try clear hb);(try clear hk);(try clear aI))|((with_reducible refine gate_dst (N := 68) rfl ?_);(try (refine gate_guard (by rfl) ?_;dsimp only));refine Kd.R_lit (Kd.int .i64) _ 3 ?hg (N := 68) ?hd (xs := ([af] : List Int)) (inner := [.int .i64 af]) (ok := fun _ => True) (okp := fun _ => True) ?hr ?hp (fun _ hk => hk) trivial (Below.refl _ _) (Nat.le_refl _) (by simp) ?_;(case hd => rfl);(case hg => rfl);(case hr => first|(go_simp;done)|(go_simp;rfl));(case hp => exact (Reps.one (show Kd.M (Kd.int .i64) _ _ _ af [.int .i64 af] from rfl) (Reps.none _ _)));intro b6 dl aH hb hg_ hnew_;clear hg_ hnew_;(first|rw [← aQ.out] at aH|(simp only [Int.reduceToNat] at aH;rw [← aQ.out] at aH));have aJ := aK (Kd.R_lower (Kd.R_new' aH (Kd.R_lt (rM au.out))) (below_size (bG HB.out)));replace au := aK (Kd.R_elder' (rM au.out) (Kd.R_base aH) hb);replace aa := aK (blk_below (kM aa.out) hb);replace HB := aK (below_step (bG HB.out) hb);clear hb aH;obtain ⟨b7,b8,bp⟩ := Kd.R_slice au.out;subst bp;obtain ⟨b9,ca,bq⟩ := Kd.R_slice aJ.out;subst bq)|(go_at_call 21;(with_reducible refine (r05_Same.calls kj8 _ _ be _ _ bE bj _ ?ab ?ac ?aL ?aM cL.out).mono ?_);(case ab => exact cM (Kd.R_reads' au.out).2.2);(case ac => exact (Kd.R_reads' au.out).2.1);(case aL => exact cM (Kd.R_reads' aJ.out).2.2);(case aM => exact (Kd.R_reads' aJ.out).2.1);rintro e w' ⟨rfl,⟨nd,rfl⟩⟩;(try first|exact ⟨rfl,_,World.drewN_drewN _ _ _⟩|exact ⟨rfl,_,Eq.trans (World.drewN_drewN _ _ _) (congrArg (World.drewN _) (Nat.add_assoc _ _ _))⟩))))
         go_meet
         case rel => exact ⟨_,(!bj),(by first|rfl|(simp;done)|(simp [*];done)),H',⟨by have := bH.out;first|omega|exact Nat.le_refl _⟩,⟨kM aa.out⟩,⟨bG HB.out⟩⟩
       ·replace cA := Bool.eq_false_iff.mpr cA
        subst cA
        rw [if_neg (show ¬ (false = true) by decide)] at H
        have H' := aK H
        clear H
        go_wp2
        repeat (go_quiet (fail);try go_wp2)
        go_meet
        case rel => exact ⟨_,(false),(by first|rfl|(simp;done)|(simp [*];done)),H',⟨by have := bH.out;first|omega|exact Nat.le_refl _⟩,⟨kM aa.out⟩,⟨bG HB.out⟩⟩
      case rest =>
       clear bO
       try clear p2
       try clear b2
       try clear p2
       obtain ⟨kq,aX,rfl,HA,br,aa,HB⟩ := hcut
       cases kq with
      |zero => exact absurd HA.out (by simp [l26_HistoryOrder.j1])
      |succ kj31 =>
        have H := HA.out
        clear HA
        simp only [l26_HistoryOrder.j1] at H
        by_cases cb : aX = true
        ·subst cb
         rw [if_pos rfl] at H
         obtain rfl := Option.some.inj H
         go_wp2
         repeat (go_quiet (fail);try go_wp2)
         go_ret
         exact ⟨by first|rfl|(simp [errW_none,errW_some] <;> rfl)|(simp [*,errW_none,errW_some] <;> rfl),bG HB.out⟩
        ·replace cb := Bool.eq_false_iff.mpr cb
         subst cb
         rw [if_neg (show ¬ (false = true) by decide)] at H
         replace H := Option.bind_eq_some_iff.mp H
         obtain ⟨⟨ak,ai,am,aB,aG,bs⟩,cc,H⟩ := H
         replace H : (if bs = true then (if af = 0 then (l26_HistoryOrder.j2 kj31 l0 af ah false ak ai am aB aG) else ((history_Is.f kj31 l0 af af).bind fun bk => (l26_HistoryOrder.j2 kj31 l0 af ah (!bk) ak ai am aB aG))) else (l26_HistoryOrder.j2 kj31 l0 af ah false ak ai am aB aG)) = some r := H
         have cN := aK cc
         clear cc
         have bQ := aK H
         clear H
         go_upto_region 12 with (first|(go_at_call 12;(with_reducible refine (history_Get.calls kj31 (fun k_ => k_ < w.heap.size) _ _ l0 af ak ai am aB aG bs _ ?ab cN.out).mono ?_);(case ab => exact Kd.V_mk aD.out (Kd.F_below (Kd.C_F k28_heap aC.out) (bG HB.out)));rintro e dm ⟨cd,ce,rfl,aI,bI,hb⟩;have av := aK (Kd.V_lower (Kd.V_mono (ok' := fun k_ => k_ ≠ ag) aI (fun k_ hk_ => Or.elim hk_ (fun hs_ => fun e_ => Nat.not_le.2 hs_ (by rw [e_];exact ao.out)) (fun hn_ => (Kd.freshB (g := ag) (o := .cells #[.int .i64 af,.int .i64 ah,.int .i64 an] 49 (0,0)) (kM aa.out) k_ hn_)))) (below_size (bG HB.out)));have aw := aK (Kd.V_lower (Kd.V_mono (ok' := fun k_ => k_ ≠ ag) bI (fun k_ hk_ => Or.elim hk_ (fun hs_ => fun e_ => Nat.not_le.2 hs_ (by rw [e_];exact ao.out)) (fun hn_ => (Kd.freshB (g := ag) (o := .cells #[.int .i64 af,.int .i64 ah,.int .i64 an] 49 (0,0)) (kM aa.out) k_ hn_)))) (below_size (bG HB.out)));replace aa := aK (blk_below (kM aa.out) hb);replace HB := aK (below_step (bG HB.out) hb);(try clear hb);(try clear hk);(try clear aI);(try clear bI))|((with_reducible refine gate_dst (N := 10) rfl ?_);(try (refine gate_guard (by rfl) ?_;dsimp only));refine box_event ?hg (N := 10) ?hd (cs := #[.int .i64 0,.slice none 0 0,.slice none 0 0,.int .i64 0,.int .i64 0]) (t := 28) ?hr ?_;(case hd => rfl);(case hg => rfl);(case hr => first|(go_simp;done)|(go_simp;rfl));intro ad hg dn hbox hb;replace av := aK (Kd.V_below (Kd.V_elderB (vM av.out) ad (Nat.le_of_eq hg.symm)) hb);replace aw := aK (Kd.V_below (Kd.V_elderB (vM aw.out) ad (Nat.le_of_eq hg.symm)) hb);have aj := aK (hbox);have bb := aK ((by rw [hg];exact (below_size (bG HB.out)) : w.heap.size ≤ ad));have bJ := Ge.mk bb.out;have bc := aK ((by rw [hg];exact (below_size (bG HB.out)) : w.heap.size ≤ ad));have bK := Ge.mk bc.out;replace HB := aK (below_step (bG HB.out) hb);have ae := aK (nbL aa.out hg);have ax := aK (nbR aa.out hg);replace aa := aK (blk_below (kM aa.out) hb);clear hb hbox hg;have bL := ax.out;have bN := ae.out;obtain ⟨aY,aZ,a0,a1,a2,a3,a4,a5,a6,a7⟩ := bk5_ aj.out;obtain ⟨ap,aq,bu⟩ := Kd.V_slice av.out;subst bu;obtain ⟨az,aA,bv⟩ := Kd.V_slice aw.out;subst bv))
         repeat (go_quiet (first|(go_at_call 12;(with_reducible refine (history_Get.calls kj31 (fun k_ => k_ < w.heap.size) _ _ l0 af ak ai am aB aG bs _ ?ab cN.out).mono ?_);(case ab => exact Kd.V_mk aD.out (Kd.F_below (Kd.C_F k28_heap aC.out) (bG HB.out)));rintro e dm ⟨cd,ce,rfl,aI,bI,hb⟩;have av := aK (Kd.V_lower (Kd.V_mono (ok' := fun k_ => k_ ≠ ag) aI (fun k_ hk_ => Or.elim hk_ (fun hs_ => fun e_ => Nat.not_le.2 hs_ (by rw [e_];exact ao.out)) (fun hn_ => (Kd.freshB (g := ag) (o := .cells #[.int .i64 af,.int .i64 ah,.int .i64 an] 49 (0,0)) (kM aa.out) k_ hn_)))) (below_size (bG HB.out)));have aw := aK (Kd.V_lower (Kd.V_mono (ok' := fun k_ => k_ ≠ ag) bI (fun k_ hk_ => Or.elim hk_ (fun hs_ => fun e_ => Nat.not_le.2 hs_ (by rw [e_];exact ao.out)) (fun hn_ => (Kd.freshB (g := ag) (o := .cells #[.int .i64 af,.int .i64 ah,.int .i64 an] 49 (0,0)) (kM aa.out) k_ hn_)))) (below_size (bG HB.out)));replace aa := aK (blk_below (kM aa.out) hb);replace HB := aK (below_step (bG HB.out) hb);(try clear hb);(try clear hk);(try clear aI);(try clear bI))|((with_reducible refine gate_dst (N := 10) rfl ?_);(try (refine gate_guard (by rfl) ?_;dsimp only));refine box_event ?hg (N := 10) ?hd (cs := #[.int .i64 0,.slice none 0 0,.slice none 0 0,.int .i64 0,.int .i64 0]) (t := 28) ?hr ?_;(case hd => rfl);(case hg => rfl);(case hr => first|(go_simp;done)|(go_simp;rfl));intro ad hg dn hbox hb;replace av := aK (Kd.V_below (Kd.V_elderB (vM av.out) ad (Nat.le_of_eq hg.symm)) hb);replace aw := aK (Kd.V_below (Kd.V_elderB (vM aw.out) ad (Nat.le_of_eq hg.symm)) hb);have aj := aK (hbox);have bb := aK ((by rw [hg];exact (below_size (bG HB.out)) : w.heap.size ≤ ad));have bJ := Ge.mk bb.out;have bc := aK ((by rw [hg];exact (below_size (bG HB.out)) : w.heap.size ≤ ad));have bK := Ge.mk bc.out;replace HB := aK (below_step (bG HB.out) hb);have ae := aK (nbL aa.out hg);have ax := aK (nbR aa.out hg);replace aa := aK (blk_below (kM aa.out) hb);clear hb hbox hg;have bL := ax.out;have bN := ae.out;obtain ⟨aY,aZ,a0,a1,a2,a3,a4,a5,a6,a7⟩ := bk5_ aj.out;obtain ⟨ap,aq,bu⟩ := Kd.V_slice av.out;subst bu;obtain ⟨az,aA,bv⟩ := Kd.V_slice aw.out;subst bv));go_upto_region 12 with (first|(go_at_call 12;(with_reducible refine (history_Get.calls kj31 (fun k_ => k_ < w.heap.size) _ _ l0 af ak ai am aB aG bs _ ?ab cN.out).mono ?_);(case ab => exact Kd.V_mk aD.out (Kd.F_below (Kd.C_F k28_heap aC.out) (bG HB.out)));rintro e dm ⟨cd,ce,rfl,aI,bI,hb⟩;have av := aK (Kd.V_lower (Kd.V_mono (ok' := fun k_ => k_ ≠ ag) aI (fun k_ hk_ => Or.elim hk_ (fun hs_ => fun e_ => Nat.not_le.2 hs_ (by rw [e_];exact ao.out)) (fun hn_ => (Kd.freshB (g := ag) (o := .cells #[.int .i64 af,.int .i64 ah,.int .i64 an] 49 (0,0)) (kM aa.out) k_ hn_)))) (below_size (bG HB.out)));have aw := aK (Kd.V_lower (Kd.V_mono (ok' := fun k_ => k_ ≠ ag) bI (fun k_ hk_ => Or.elim hk_ (fun hs_ => fun e_ => Nat.not_le.2 hs_ (by rw [e_];exact ao.out)) (fun hn_ => (Kd.freshB (g := ag) (o := .cells #[.int .i64 af,.int .i64 ah,.int .i64 an] 49 (0,0)) (kM aa.out) k_ hn_)))) (below_size (bG HB.out)));replace aa := aK (blk_below (kM aa.out) hb);replace HB := aK (below_step (bG HB.out) hb);(try clear hb);(try clear hk);(try clear aI);(try clear bI))|((with_reducible refine gate_dst (N := 10) rfl ?_);(try (refine gate_guard (by rfl) ?_;dsimp only));refine box_event ?hg (N := 10) ?hd (cs := #[.int .i64 0,.slice none 0 0,.slice none 0 0,.int .i64 0,.int .i64 0]) (t := 28) ?hr ?_;(case hd => rfl);(case hg => rfl);(case hr => first|(go_simp;done)|(go_simp;rfl));intro ad hg dn hbox hb;replace av := aK (Kd.V_below (Kd.V_elderB (vM av.out) ad (Nat.le_of_eq hg.symm)) hb);replace aw := aK (Kd.V_below (Kd.V_elderB (vM aw.out) ad (Nat.le_of_eq hg.symm)) hb);have aj := aK (hbox);have bb := aK ((by rw [hg];exact (below_size (bG HB.out)) : w.heap.size ≤ ad));have bJ := Ge.mk bb.out;have bc := aK ((by rw [hg];exact (below_size (bG HB.out)) : w.heap.size ≤ ad));have bK := Ge.mk bc.out;replace HB := aK (below_step (bG HB.out) hb);have ae := aK (nbL aa.out hg);have ax := aK (nbR aa.out hg);replace aa := aK (blk_below (kM aa.out) hb);clear hb hbox hg;have bL := ax.out;have bN := ae.out;obtain ⟨aY,aZ,a0,a1,a2,a3,a4,a5,a6,a7⟩ := bk5_ aj.out;obtain ⟨ap,aq,bu⟩ := Kd.V_slice av.out;subst bu;obtain ⟨az,aA,bv⟩ := Kd.V_slice aw.out;subst bv)))
         (try simp only [Act.put,z1_,z2_,z3_])
         go_cut [89] (fun dN wc => ∃ (kq : Nat) (a8 : Bool),dN = .bool a8 ∧ Aside0 (l26_HistoryOrder.j2 kq l0 af ah a8 ak ai am aB aG = some r) ∧ Aside0 (kq ≤ kj31) ∧ Aside0 (Kd.V (Kd.int .i64) 3 wc w.heap.size (fun k_ => k_ ≠ ag ∧ k_ ≠ ad) (.slice ap ai.length aq) ai) ∧ Aside0 (Kd.V k53 53 wc w.heap.size (fun k_ => k_ ≠ ag ∧ k_ ≠ ad) (.slice az am.length aA) am) ∧ Aside0 (wc.heap[ag]? = some (.cells #[.int .i64 af,.int .i64 ah,.int .i64 an] 49 (0,0))) ∧ Aside0 (wc.heap[ad]? = some (.cells #[.int .i64 ak,(.slice ap ai.length aq),(.slice az am.length aA),.int .i64 aB,.int .i64 aG] 28 (0,0))) ∧ Aside0 (Below w.heap.size w wc))
         case first =>
          have H := bQ.out
          clear bQ
          by_cases cB : bs = true
          ·subst cB
           rw [if_pos rfl] at H
           by_cases bR : af = 0
           ·rw [if_pos bR] at H
            have bd := beq_iff_eq.mpr bR
            have bx := bne_eq_false_iff_eq.mpr bR
            clear bR
            (first|rw [bd]|(simp only [i64_w,i32_w];rw [bd])|rw [bx]|skip)
            have H' := aK H
            clear H
            go_wp2
            repeat (go_quiet (fail);try go_wp2)
            go_meet
            case rel => exact ⟨_,(false),(by first|rfl|(simp;done)|(simp [*];done)),H',⟨by have := bH.out;have := br.out;first|omega|exact Nat.le_refl _⟩,⟨by (with_reducible repeat (first|apply Kd.V_alloc|apply Kd.V_drewN|apply Kd.V_drew));exact Kd.V_mono (Kd.V_far (p := ⟨ad,4,none⟩) (Kd.V_far (p := ⟨ad,3,none⟩) (Kd.V_far (p := ⟨ad,2,none⟩) (Kd.V_far (p := ⟨ad,1,none⟩) (Kd.V_far (p := ⟨ad,0,none⟩) (Kd.V_mono av.out (fun k_ hk => (⟨hk,hk.2⟩ : _ ∧ k_ ≠ ad))) (fun _ hk => hk.2) (.int .i64 ak)) (fun _ hk => hk.2) (.slice ap ai.length aq)) (fun _ hk => hk.2) (.slice az am.length aA)) (fun _ hk => hk.2) (.int .i64 aB)) (fun _ hk => hk.2) (.int .i64 aG)) (fun _ hk => ⟨hk.1.1,hk.1.2⟩)⟩,⟨by (with_reducible repeat (first|apply Kd.V_alloc|apply Kd.V_drewN|apply Kd.V_drew));exact Kd.V_mono (Kd.V_far (p := ⟨ad,4,none⟩) (Kd.V_far (p := ⟨ad,3,none⟩) (Kd.V_far (p := ⟨ad,2,none⟩) (Kd.V_far (p := ⟨ad,1,none⟩) (Kd.V_far (p := ⟨ad,0,none⟩) (Kd.V_mono aw.out (fun k_ hk => (⟨hk,hk.2⟩ : _ ∧ k_ ≠ ad))) (fun _ hk => hk.2) (.int .i64 ak)) (fun _ hk => hk.2) (.slice ap ai.length aq)) (fun _ hk => hk.2) (.slice az am.length aA)) (fun _ hk => hk.2) (.int .i64 aB)) (fun _ hk => hk.2) (.int .i64 aG)) (fun _ hk => ⟨hk.1.1,hk.1.2⟩)⟩,⟨by refine kO ?_;refine blk_far ?_ ae.out _;refine kO ?_;refine blk_far ?_ ae.out _;refine kO ?_;refine blk_far ?_ ae.out _;refine kO ?_;refine blk_far ?_ ae.out _;refine kO ?_;refine blk_far ?_ ae.out _;refine kO ?_;exact aa.out⟩,⟨by refine kO ?_;refine blk_put (cs := #[.int .i64 ak,.slice ap ai.length aq,.slice az am.length aA,.int .i64 aB,.int .i64 0]) ?_ 4 _ rfl;refine kO ?_;refine blk_put (cs := #[.int .i64 ak,.slice ap ai.length aq,.slice az am.length aA,.int .i64 0,.int .i64 0]) ?_ 3 _ rfl;refine kO ?_;refine blk_put (cs := #[.int .i64 ak,.slice ap ai.length aq,.slice none 0 0,.int .i64 0,.int .i64 0]) ?_ 2 _ rfl;refine kO ?_;refine blk_put (cs := #[.int .i64 ak,.slice none 0 0,.slice none 0 0,.int .i64 0,.int .i64 0]) ?_ 1 _ rfl;refine kO ?_;refine blk_put (cs := #[.int .i64 0,.slice none 0 0,.slice none 0 0,.int .i64 0,.int .i64 0]) ?_ 0 _ rfl;refine kO ?_;exact aj.out⟩,⟨bG HB.out⟩⟩
           ·rw [if_neg bR] at H
            have bd := beq_eq_false_iff_ne.mpr bR
            have bx := bne_iff_ne.mpr bR
            (first|rw [bd]|(simp only [i64_w,i32_w];rw [bd])|rw [bx]|skip)
            replace H := Option.bind_eq_some_iff.mp H
            obtain ⟨bk,cf,H⟩ := H
            have cO := aK cf
            clear cf
            have H' := aK H
            clear H
            go_wp2_with (first|(go_at_call 24;(with_reducible refine (history_Is.calls kj31 _ _ l0 af af bk _ ?ab ?ac cO.out).mono ?_);(case ab => exact Kd.C_below aC.out (bG HB.out));(case ac => exact aD.out);rintro e dp ⟨rfl,hb⟩;replace av := aK (Kd.V_below (by (with_reducible repeat (first|apply Kd.V_alloc|apply Kd.V_drewN|apply Kd.V_drew));exact (Kd.V_mono (Kd.V_far (p := ⟨ad,4,none⟩) (Kd.V_far (p := ⟨ad,3,none⟩) (Kd.V_far (p := ⟨ad,2,none⟩) (Kd.V_far (p := ⟨ad,1,none⟩) (Kd.V_far (p := ⟨ad,0,none⟩) (Kd.V_mono av.out (fun k_ hk => (⟨hk,hk.2⟩ : _ ∧ k_ ≠ ad))) (fun _ hk => hk.2) (.int .i64 ak)) (fun _ hk => hk.2) (.slice ap ai.length aq)) (fun _ hk => hk.2) (.slice az am.length aA)) (fun _ hk => hk.2) (.int .i64 aB)) (fun _ hk => hk.2) (.int .i64 aG)) (fun _ h_ => h_.1))) hb);replace aw := aK (Kd.V_below (by (with_reducible repeat (first|apply Kd.V_alloc|apply Kd.V_drewN|apply Kd.V_drew));exact (Kd.V_mono (Kd.V_far (p := ⟨ad,4,none⟩) (Kd.V_far (p := ⟨ad,3,none⟩) (Kd.V_far (p := ⟨ad,2,none⟩) (Kd.V_far (p := ⟨ad,1,none⟩) (Kd.V_far (p := ⟨ad,0,none⟩) (Kd.V_mono aw.out (fun k_ hk => (⟨hk,hk.2⟩ : _ ∧ k_ ≠ ad))) (fun _ hk => hk.2) (.int .i64 ak)) (fun _ hk => hk.2) (.slice ap ai.length aq)) (fun _ hk => hk.2) (.slice az am.length aA)) (fun _ hk => hk.2) (.int .i64 aB)) (fun _ hk => hk.2) (.int .i64 aG)) (fun _ h_ => h_.1))) hb);replace aa := aK (blk_below (g := ag) (o := .cells #[.int .i64 af,.int .i64 ah,.int .i64 an] 49 (0,0)) (by refine kO ?_;refine blk_far ?_ ae.out _;refine kO ?_;refine blk_far ?_ ae.out _;refine kO ?_;refine blk_far ?_ ae.out _;refine kO ?_;refine blk_far ?_ ae.out _;refine kO ?_;refine blk_far ?_ ae.out _;refine kO ?_;exact aa.out) hb);replace aj := aK (blk_below (g := ad) (o := .cells #[.int .i64 ak,.slice ap ai.length aq,.slice az am.length aA,.int .i64 aB,.int .i64 aG] 28 (0,0)) (by refine kO ?_;refine blk_put (cs := #[.int .i64 ak,.slice ap ai.length aq,.slice az am.length aA,.int .i64 aB,.int .i64 0]) ?_ 4 _ rfl;refine kO ?_;refine blk_put (cs := #[.int .i64 ak,.slice ap ai.length aq,.slice az am.length aA,.int .i64 0,.int .i64 0]) ?_ 3 _ rfl;refine kO ?_;refine blk_put (cs := #[.int .i64 ak,.slice ap ai.length aq,.slice none 0 0,.int .i64 0,.int .i64 0]) ?_ 2 _ rfl;refine kO ?_;refine blk_put (cs := #[.int .i64 ak,.slice none 0 0,.slice none 0 0,.int .i64 0,.int .i64 0]) ?_ 1 _ rfl;refine kO ?_;refine blk_put (cs := #[.int .i64 0,.slice none 0 0,.slice none 0 0,.int .i64 0,.int .i64 0]) ?_ 0 _ rfl;refine kO ?_;exact aj.out) hb);replace HB := aK (below_step (bG HB.out) hb);(try clear hb);(try clear hk)))
            repeat (go_quiet (first|(go_at_call 24;(with_reducible refine (history_Is.calls kj31 _ _ l0 af af bk _ ?ab ?ac cO.out).mono ?_);(case ab => exact Kd.C_below aC.out (bG HB.out));(case ac => exact aD.out);rintro e dp ⟨rfl,hb⟩;replace av := aK (Kd.V_below (by (with_reducible repeat (first|apply Kd.V_alloc|apply Kd.V_drewN|apply Kd.V_drew));exact (Kd.V_mono (Kd.V_far (p := ⟨ad,4,none⟩) (Kd.V_far (p := ⟨ad,3,none⟩) (Kd.V_far (p := ⟨ad,2,none⟩) (Kd.V_far (p := ⟨ad,1,none⟩) (Kd.V_far (p := ⟨ad,0,none⟩) (Kd.V_mono av.out (fun k_ hk => (⟨hk,hk.2⟩ : _ ∧ k_ ≠ ad))) (fun _ hk => hk.2) (.int .i64 ak)) (fun _ hk => hk.2) (.slice ap ai.length aq)) (fun _ hk => hk.2) (.slice az am.length aA)) (fun _ hk => hk.2) (.int .i64 aB)) (fun _ hk => hk.2) (.int .i64 aG)) (fun _ h_ => h_.1))) hb);replace aw := aK (Kd.V_below (by (with_reducible repeat (first|apply Kd.V_alloc|apply Kd.V_drewN|apply Kd.V_drew));exact (Kd.V_mono (Kd.V_far (p := ⟨ad,4,none⟩) (Kd.V_far (p := ⟨ad,3,none⟩) (Kd.V_far (p := ⟨ad,2,none⟩) (Kd.V_far (p := ⟨ad,1,none⟩) (Kd.V_far (p := ⟨ad,0,none⟩) (Kd.V_mono aw.out (fun k_ hk => (⟨hk,hk.2⟩ : _ ∧ k_ ≠ ad))) (fun _ hk => hk.2) (.int .i64 ak)) (fun _ hk => hk.2) (.slice ap ai.length aq)) (fun _ hk => hk.2) (.slice az am.length aA)) (fun _ hk => hk.2) (.int .i64 aB)) (fun _ hk => hk.2) (.int .i64 aG)) (fun _ h_ => h_.1))) hb);replace aa := aK (blk_below (g := ag) (o := .cells #[.int .i64 af,.int .i64 ah,.int .i64 an] 49 (0,0)) (by refine kO ?_;refine blk_far ?_ ae.out _;refine kO ?_;refine blk_far ?_ ae.out _;refine kO ?_;refine blk_far ?_ ae.out _;refine kO ?_;refine blk_far ?_ ae.out _;refine kO ?_;refine blk_far ?_ ae.out _;refine kO ?_;exact aa.out) hb);replace aj := aK (blk_below (g := ad) (o := .cells #[.int .i64 ak,.slice ap ai.length aq,.slice az am.length aA,.int .i64 aB,.int .i64 aG] 28 (0,0)) (by refine kO ?_;refine blk_put (cs := #[.int .i64 ak,.slice ap ai.length aq,.slice az am.length aA,.int .i64 aB,.int .i64 0]) ?_ 4 _ rfl;refine kO ?_;refine blk_put (cs := #[.int .i64 ak,.slice ap ai.length aq,.slice az am.length aA,.int .i64 0,.int .i64 0]) ?_ 3 _ rfl;refine kO ?_;refine blk_put (cs := #[.int .i64 ak,.slice ap ai.length aq,.slice none 0 0,.int .i64 0,.int .i64 0]) ?_ 2 _ rfl;refine kO ?_;refine blk_put (cs := #[.int .i64 ak,.slice none 0 0,.slice none 0 0,.int .i64 0,.int .i64 0]) ?_ 1 _ rfl;refine kO ?_;refine blk_put (cs := #[.int .i64 0,.slice none 0 0,.slice none 0 0,.int .i64 0,.int .i64 0]) ?_ 0 _ rfl;refine kO ?_;exact aj.out) hb);replace HB := aK (below_step (bG HB.out) hb);(try clear hb);(try clear hk)));try go_wp2_with (first|(go_at_call 24;(with_reducible refine (history_Is.calls kj31 _ _ l0 af af bk _ ?ab ?ac cO.out).mono ?_);(case ab => exact Kd.C_below aC.out (bG HB.out));(case ac => exact aD.out);rintro e dp ⟨rfl,hb⟩;replace av := aK (Kd.V_below (by (with_reducible repeat (first|apply Kd.V_alloc|apply Kd.V_drewN|apply Kd.V_drew));exact (Kd.V_mono (Kd.V_far (p := ⟨ad,4,none⟩) (Kd.V_far (p := ⟨ad,3,none⟩) (Kd.V_far (p := ⟨ad,2,none⟩) (Kd.V_far (p := ⟨ad,1,none⟩) (Kd.V_far (p := ⟨ad,0,none⟩) (Kd.V_mono av.out (fun k_ hk => (⟨hk,hk.2⟩ : _ ∧ k_ ≠ ad))) (fun _ hk => hk.2) (.int .i64 ak)) (fun _ hk => hk.2) (.slice ap ai.length aq)) (fun _ hk => hk.2) (.slice az am.length aA)) (fun _ hk => hk.2) (.int .i64 aB)) (fun _ hk => hk.2) (.int .i64 aG)) (fun _ h_ => h_.1))) hb);replace aw := aK (Kd.V_below (by (with_reducible repeat (first|apply Kd.V_alloc|apply Kd.V_drewN|apply Kd.V_drew));exact (Kd.V_mono (Kd.V_far (p := ⟨ad,4,none⟩) (Kd.V_far (p := ⟨ad,3,none⟩) (Kd.V_far (p := ⟨ad,2,none⟩) (Kd.V_far (p := ⟨ad,1,none⟩) (Kd.V_far (p := ⟨ad,0,none⟩) (Kd.V_mono aw.out (fun k_ hk => (⟨hk,hk.2⟩ : _ ∧ k_ ≠ ad))) (fun _ hk => hk.2) (.int .i64 ak)) (fun _ hk => hk.2) (.slice ap ai.length aq)) (fun _ hk => hk.2) (.slice az am.length aA)) (fun _ hk => hk.2) (.int .i64 aB)) (fun _ hk => hk.2) (.int .i64 aG)) (fun _ h_ => h_.1))) hb);replace aa := aK (blk_below (g := ag) (o := .cells #[.int .i64 af,.int .i64 ah,.int .i64 an] 49 (0,0)) (by refine kO ?_;refine blk_far ?_ ae.out _;refine kO ?_;refine blk_far ?_ ae.out _;refine kO ?_;refine blk_far ?_ ae.out _;refine kO ?_;refine blk_far ?_ ae.out _;refine kO ?_;refine blk_far ?_ ae.out _;refine kO ?_;exact aa.out) hb);replace aj := aK (blk_below (g := ad) (o := .cells #[.int .i64 ak,.slice ap ai.length aq,.slice az am.length aA,.int .i64 aB,.int .i64 aG] 28 (0,0)) (by refine kO ?_;refine blk_put (cs := #[.int .i64 ak,.slice ap ai.length aq,.slice az am.length aA,.int .i64 aB,.int .i64 0]) ?_ 4 _ rfl;refine kO ?_;refine blk_put (cs := #[.int .i64 ak,.slice ap ai.length aq,.slice az am.length aA,.int .i64 0,.int .i64 0]) ?_ 3 _ rfl;refine kO ?_;refine blk_put (cs := #[.int .i64 ak,.slice ap ai.length aq,.slice none 0 0,.int .i64 0,.int .i64 0]) ?_ 2 _ rfl;refine kO ?_;refine blk_put (cs := #[.int .i64 ak,.slice none 0 0,.slice none 0 0,.int .i64 0,.int .i64 0]) ?_ 1 _ rfl;refine kO ?_;refine blk_put (cs := #[.int .i64 0,.slice none 0 0,.slice none 0 0,.int .i64 0,.int .i64 0]) ?_ 0 _ rfl;refine kO ?_;exact aj.out) hb);replace HB := aK (below_step (bG HB.out) hb);(try clear hb);(try clear hk))))
            go_meet
            case rel => exact ⟨_,(!bk),(by first|rfl|(simp;done)|(simp [*];done)),H',⟨by have := bH.out;have := br.out;first|omega|exact Nat.le_refl _⟩,⟨vM av.out⟩,⟨vM aw.out⟩,⟨kM aa.out⟩,⟨kM aj.out⟩,⟨bG HB.out⟩⟩
          ·replace cB := Bool.eq_false_iff.mpr cB
           subst cB
           rw [if_neg (show ¬ (false = true) by decide)] at H
           have H' := aK H
           clear H
           go_wp2
           repeat (go_quiet (fail);try go_wp2)
           go_meet
           case rel => exact ⟨_,(false),(by first|rfl|(simp;done)|(simp [*];done)),H',⟨by have := bH.out;have := br.out;first|omega|exact Nat.le_refl _⟩,⟨by (with_reducible repeat (first|apply Kd.V_alloc|apply Kd.V_drewN|apply Kd.V_drew));exact Kd.V_mono (Kd.V_far (p := ⟨ad,4,none⟩) (Kd.V_far (p := ⟨ad,3,none⟩) (Kd.V_far (p := ⟨ad,2,none⟩) (Kd.V_far (p := ⟨ad,1,none⟩) (Kd.V_far (p := ⟨ad,0,none⟩) (Kd.V_mono av.out (fun k_ hk => (⟨hk,hk.2⟩ : _ ∧ k_ ≠ ad))) (fun _ hk => hk.2) (.int .i64 ak)) (fun _ hk => hk.2) (.slice ap ai.length aq)) (fun _ hk => hk.2) (.slice az am.length aA)) (fun _ hk => hk.2) (.int .i64 aB)) (fun _ hk => hk.2) (.int .i64 aG)) (fun _ hk => ⟨hk.1.1,hk.1.2⟩)⟩,⟨by (with_reducible repeat (first|apply Kd.V_alloc|apply Kd.V_drewN|apply Kd.V_drew));exact Kd.V_mono (Kd.V_far (p := ⟨ad,4,none⟩) (Kd.V_far (p := ⟨ad,3,none⟩) (Kd.V_far (p := ⟨ad,2,none⟩) (Kd.V_far (p := ⟨ad,1,none⟩) (Kd.V_far (p := ⟨ad,0,none⟩) (Kd.V_mono aw.out (fun k_ hk => (⟨hk,hk.2⟩ : _ ∧ k_ ≠ ad))) (fun _ hk => hk.2) (.int .i64 ak)) (fun _ hk => hk.2) (.slice ap ai.length aq)) (fun _ hk => hk.2) (.slice az am.length aA)) (fun _ hk => hk.2) (.int .i64 aB)) (fun _ hk => hk.2) (.int .i64 aG)) (fun _ hk => ⟨hk.1.1,hk.1.2⟩)⟩,⟨by refine kO ?_;refine blk_far ?_ ae.out _;refine kO ?_;refine blk_far ?_ ae.out _;refine kO ?_;refine blk_far ?_ ae.out _;refine kO ?_;refine blk_far ?_ ae.out _;refine kO ?_;refine blk_far ?_ ae.out _;refine kO ?_;exact aa.out⟩,⟨by refine kO ?_;refine blk_put (cs := #[.int .i64 ak,.slice ap ai.length aq,.slice az am.length aA,.int .i64 aB,.int .i64 0]) ?_ 4 _ rfl;refine kO ?_;refine blk_put (cs := #[.int .i64 ak,.slice ap ai.length aq,.slice az am.length aA,.int .i64 0,.int .i64 0]) ?_ 3 _ rfl;refine kO ?_;refine blk_put (cs := #[.int .i64 ak,.slice ap ai.length aq,.slice none 0 0,.int .i64 0,.int .i64 0]) ?_ 2 _ rfl;refine kO ?_;refine blk_put (cs := #[.int .i64 ak,.slice none 0 0,.slice none 0 0,.int .i64 0,.int .i64 0]) ?_ 1 _ rfl;refine kO ?_;refine blk_put (cs := #[.int .i64 0,.slice none 0 0,.slice none 0 0,.int .i64 0,.int .i64 0]) ?_ 0 _ rfl;refine kO ?_;exact aj.out⟩,⟨bG HB.out⟩⟩
         case rest =>
          clear bQ
          try clear p2
          try clear cb
          try clear aY
          try clear aZ
          try clear a0
          try clear a1
          try clear a2
          try clear a3
          try clear a4
          try clear a5
          try clear a6
          try clear a7
          try clear p2
          obtain ⟨kq,a8,rfl,HA,cg,al,ar,aa,aj,HB⟩ := hcut
          cases kq with
         |zero => exact absurd HA.out (by simp [l26_HistoryOrder.j2])
         |succ kj43 =>
           have H := HA.out
           clear HA
           simp only [l26_HistoryOrder.j2] at H
           by_cases ch : a8 = true
           ·subst ch
            rw [if_pos rfl] at H
            obtain rfl := Option.some.inj H
            go_wp2
            repeat (go_quiet (fail);try go_wp2)
            go_ret
            exact ⟨by first|rfl|(simp [errW_none,errW_some] <;> rfl)|(simp [*,errW_none,errW_some] <;> rfl),bG HB.out⟩
           ·replace ch := Bool.eq_false_iff.mpr ch
            subst ch
            rw [if_neg (show ¬ (false = true) by decide)] at H
            have H' := aK H
            clear H
            go_wp2
            repeat (go_quiet (fail);try go_wp2)
            go_loopg [12] kj43 (fun kq dO w' => ∃ (aF : Int),dO = .int .i64 aF ∧ Aside0 (l26_HistoryOrder.l0 kq l0 af ah aF ak ai am aB aG = some r) ∧ Aside0 (kq ≤ kj43) ∧ Aside0 (Kd.V (Kd.int .i64) 3 w' w.heap.size (fun k_ => k_ ≠ ag ∧ k_ ≠ ad) (.slice ap ai.length aq) ai) ∧ Aside0 (Kd.V k53 53 w' w.heap.size (fun k_ => k_ ≠ ag ∧ k_ ≠ ad) (.slice az am.length aA) am) ∧ Aside0 (w'.heap[ag]? = some (.cells #[.int .i64 af,.int .i64 ah,.int .i64 an] 49 (0,0))) ∧ Aside0 (w'.heap[ad]? = some (.cells #[.int .i64 ak,(.slice ap ai.length aq),(.slice az am.length aA),.int .i64 aB,.int .i64 aG] 28 (0,0))) ∧ Aside0 (Below w.heap.size w w'))
            case atStart => exact ⟨(0),(by first|rfl|(simp;done)|(simp [*];done)),H',⟨Nat.le_refl _⟩,⟨vM al.out⟩,⟨vM ar.out⟩,⟨kM aa.out⟩,⟨kM aj.out⟩,⟨bG HB.out⟩⟩
            case round =>
             clear H'
             try clear p2
             try clear ch
             try clear p2
             obtain ⟨aF,rfl,HA,dq,al,ar,aa,aj,HB⟩ := hrel
             cases gk with
            |zero => exact absurd HA.out (by simp [l26_HistoryOrder.l0])
            |succ k4 =>
              have H := HA.out
              clear HA
              simp only [l26_HistoryOrder.l0] at H
              by_cases bW : aF < (ai.length : Int)
              ·rw [if_pos bW] at H
               have ci := decide_eq_true bW
               clear bW
               obtain ⟨dr,H⟩ := iS H
               have ds := decide_eq_true dr
               clear dr
               replace H := Option.bind_eq_some_iff.mp H
               obtain ⟨cP,cj,H⟩ := H
               have bX := aK cj
               clear cj
               by_cases cC : cP = true
               ·subst cC
                rw [if_pos rfl] at H
                have H' := aK H
                clear H
                have dt := ax.out
                have du := ae.out
                obtain ⟨_,_,_,_,_,_,_,_,_,_⟩ := bk5_ aj.out
                have bf : 0 ≤ (aF : Int) := dA
                have bg : aF < (ai.length : Int) := dA
                obtain ⟨ck,bS,bF⟩ := Kd.at_int (Kd.V_reads' al.out).2.2 aF bf bg
                cases bS
                replace bf := eq_true bf
                replace bg := eq_true bg
                go_wp2_with (first|(go_at_call 24;(with_reducible refine (history_Is.calls k4 _ _ l0 (rd ai aF) af true _ ?ab ?ac bX.out).mono ?_);(case ab => exact cM (Kd.C_below aC.out HB.out));(case ac => exact aD.out);rintro e dv ⟨rfl,hb⟩;replace al := aK (Kd.V_below (vM al.out) hb);replace ar := aK (Kd.V_below (vM ar.out) hb);replace aa := aK (blk_below (kM aa.out) hb);replace aj := aK (blk_below (kM aj.out) hb);replace HB := aK (below_step (bG HB.out) hb);(try clear hb);(try clear hk)))
                repeat (go_quiet (first|(go_at_call 24;(with_reducible refine (history_Is.calls k4 _ _ l0 (rd ai aF) af true _ ?ab ?ac bX.out).mono ?_);(case ab => exact cM (Kd.C_below aC.out HB.out));(case ac => exact aD.out);rintro e dv ⟨rfl,hb⟩;replace al := aK (Kd.V_below (vM al.out) hb);replace ar := aK (Kd.V_below (vM ar.out) hb);replace aa := aK (blk_below (kM aa.out) hb);replace aj := aK (blk_below (kM aj.out) hb);replace HB := aK (below_step (bG HB.out) hb);(try clear hb);(try clear hk)));try go_wp2_with (first|(go_at_call 24;(with_reducible refine (history_Is.calls k4 _ _ l0 (rd ai aF) af true _ ?ab ?ac bX.out).mono ?_);(case ab => exact cM (Kd.C_below aC.out HB.out));(case ac => exact aD.out);rintro e dv ⟨rfl,hb⟩;replace al := aK (Kd.V_below (vM al.out) hb);replace ar := aK (Kd.V_below (vM ar.out) hb);replace aa := aK (blk_below (kM aa.out) hb);replace aj := aK (blk_below (kM aj.out) hb);replace HB := aK (below_step (bG HB.out) hb);(try clear hb);(try clear hk))))
                go_roundg k4
                case measure => have := bH.out;have := br.out;have := cg.out;have := dq.out;omega
                case rel => exact ⟨(wrap64 (aF + 1)),(by first|rfl|(simp;done)|(simp [*];done)),H',⟨by have := bH.out;have := br.out;have := cg.out;have := dq.out;omega⟩,⟨vM al.out⟩,⟨vM ar.out⟩,⟨kM aa.out⟩,⟨kM aj.out⟩,⟨bG HB.out⟩⟩
               ·replace cC := Bool.eq_false_iff.mpr cC
                subst cC
                rw [if_neg (show ¬ (false = true) by decide)] at H
                obtain rfl := Option.some.inj H
                have dw := ax.out
                have dx := ae.out
                obtain ⟨_,_,_,_,_,_,_,_,_,_⟩ := bk5_ aj.out
                have bf : 0 ≤ (aF : Int) := dA
                have bg : aF < (ai.length : Int) := dA
                obtain ⟨ck,bS,bF⟩ := Kd.at_int (Kd.V_reads' al.out).2.2 aF bf bg
                cases bS
                replace bf := eq_true bf
                replace bg := eq_true bg
                go_wp2_with (first|(go_at_call 24;(with_reducible refine (history_Is.calls k4 _ _ l0 (rd ai aF) af false _ ?ab ?ac bX.out).mono ?_);(case ab => exact cM (Kd.C_below aC.out HB.out));(case ac => exact aD.out);rintro e dy ⟨rfl,hb⟩;replace aj := aK (blk_below (kM aj.out) hb);replace HB := aK (below_step (bG HB.out) hb);(try clear hb);(try clear hk)))
                repeat (go_quiet (first|(go_at_call 24;(with_reducible refine (history_Is.calls k4 _ _ l0 (rd ai aF) af false _ ?ab ?ac bX.out).mono ?_);(case ab => exact cM (Kd.C_below aC.out HB.out));(case ac => exact aD.out);rintro e dy ⟨rfl,hb⟩;replace aj := aK (blk_below (kM aj.out) hb);replace HB := aK (below_step (bG HB.out) hb);(try clear hb);(try clear hk)));try go_wp2_with (first|(go_at_call 24;(with_reducible refine (history_Is.calls k4 _ _ l0 (rd ai aF) af false _ ?ab ?ac bX.out).mono ?_);(case ab => exact cM (Kd.C_below aC.out HB.out));(case ac => exact aD.out);rintro e dy ⟨rfl,hb⟩;replace aj := aK (blk_below (kM aj.out) hb);replace HB := aK (below_step (bG HB.out) hb);(try clear hb);(try clear hk))))
                go_ret
                exact ⟨by first|rfl|(simp [errW_none,errW_some] <;> rfl)|(simp [*,errW_none,errW_some] <;> rfl),bG HB.out⟩
              ·rw [if_neg bW] at H
               have ci := decide_eq_false bW
               clear bW
               replace H := Option.bind_eq_some_iff.mp H
               obtain ⟨bm,cl,H⟩ := H
               have cQ := aK cl
               clear cl
               replace H := Option.bind_eq_some_iff.mp H
               obtain ⟨bn,cm,H⟩ := H
               have cR := aK cm
               clear cm
               replace H := Option.bind_eq_some_iff.mp H
               obtain ⟨bT,cn,H⟩ := H
               have cS := aK cn
               clear cn
               obtain rfl := Option.some.inj H
               have dz := ax.out
               have dB := ae.out
               obtain ⟨_,_,_,_,_,_,_,_,_,_⟩ := bk5_ aj.out
               go_wp2_with (first|(go_at_call 28;(with_reducible refine (history_Bases.calls k4 _ _ l0 af ah bm _ ?ab ?ac cQ.out).mono ?_);(case ab => exact cM (Kd.C_below aC.out HB.out));(case ac => exact aD.out);rintro e dC ⟨co,rfl,aI,hb⟩;have ay := aK (Kd.R_lower aI (below_size (bG HB.out)));replace HB := aK (below_step (bG HB.out) hb);(try clear hb);(try clear hk);(try clear aI))|(go_at_call 28;(with_reducible refine (history_Bases.calls k4 _ _ l0 ah af bn _ ?ab ?ac cR.out).mono ?_);(case ab => exact cM (Kd.C_below aC.out HB.out));(case ac => exact aD.out);rintro e dD ⟨cp,rfl,aI,hb⟩;have aN := aK (Kd.R_lower (Kd.R_new' aI (Kd.R_lt (rM ay.out))) (below_size (bG HB.out)));replace ay := aK (Kd.R_elder' (rM ay.out) (Kd.R_base aI) hb);replace HB := aK (below_step (bG HB.out) hb);(try clear hb);(try clear hk);(try clear aI);obtain ⟨cq,cr,bz⟩ := Kd.R_slice ay.out;subst bz;obtain ⟨ct,cu,bB⟩ := Kd.R_slice aN.out;subst bB)|(go_at_call 21;(with_reducible refine (r05_Same.calls k4 _ _ bm _ _ bn bT _ ?ab ?ac ?aL ?aM cS.out).mono ?_);(case ab => exact cM (Kd.R_reads' ay.out).2.2);(case ac => exact (Kd.R_reads' ay.out).2.1);(case aL => exact cM (Kd.R_reads' aN.out).2.2);(case aM => exact (Kd.R_reads' aN.out).2.1);rintro e w' ⟨rfl,⟨nd,rfl⟩⟩;(try first|exact ⟨rfl,_,World.drewN_drewN _ _ _⟩|exact ⟨rfl,_,Eq.trans (World.drewN_drewN _ _ _) (congrArg (World.drewN _) (Nat.add_assoc _ _ _))⟩)))
               repeat (go_quiet (first|(go_at_call 28;(with_reducible refine (history_Bases.calls k4 _ _ l0 af ah bm _ ?ab ?ac cQ.out).mono ?_);(case ab => exact cM (Kd.C_below aC.out HB.out));(case ac => exact aD.out);rintro e dC ⟨co,rfl,aI,hb⟩;have ay := aK (Kd.R_lower aI (below_size (bG HB.out)));replace HB := aK (below_step (bG HB.out) hb);(try clear hb);(try clear hk);(try clear aI))|(go_at_call 28;(with_reducible refine (history_Bases.calls k4 _ _ l0 ah af bn _ ?ab ?ac cR.out).mono ?_);(case ab => exact cM (Kd.C_below aC.out HB.out));(case ac => exact aD.out);rintro e dD ⟨cp,rfl,aI,hb⟩;have aN := aK (Kd.R_lower (Kd.R_new' aI (Kd.R_lt (rM ay.out))) (below_size (bG HB.out)));replace ay := aK (Kd.R_elder' (rM ay.out) (Kd.R_base aI) hb);replace HB := aK (below_step (bG HB.out) hb);(try clear hb);(try clear hk);(try clear aI);obtain ⟨cq,cr,bz⟩ := Kd.R_slice ay.out;subst bz;obtain ⟨ct,cu,bB⟩ := Kd.R_slice aN.out;subst bB)|(go_at_call 21;(with_reducible refine (r05_Same.calls k4 _ _ bm _ _ bn bT _ ?ab ?ac ?aL ?aM cS.out).mono ?_);(case ab => exact cM (Kd.R_reads' ay.out).2.2);(case ac => exact (Kd.R_reads' ay.out).2.1);(case aL => exact cM (Kd.R_reads' aN.out).2.2);(case aM => exact (Kd.R_reads' aN.out).2.1);rintro e w' ⟨rfl,⟨nd,rfl⟩⟩;(try first|exact ⟨rfl,_,World.drewN_drewN _ _ _⟩|exact ⟨rfl,_,Eq.trans (World.drewN_drewN _ _ _) (congrArg (World.drewN _) (Nat.add_assoc _ _ _))⟩)));try go_wp2_with (first|(go_at_call 28;(with_reducible refine (history_Bases.calls k4 _ _ l0 af ah bm _ ?ab ?ac cQ.out).mono ?_);(case ab => exact cM (Kd.C_below aC.out HB.out));(case ac => exact aD.out);rintro e dC ⟨co,rfl,aI,hb⟩;have ay := aK (Kd.R_lower aI (below_size (bG HB.out)));replace HB := aK (below_step (bG HB.out) hb);(try clear hb);(try clear hk);(try clear aI))|(go_at_call 28;(with_reducible refine (history_Bases.calls k4 _ _ l0 ah af bn _ ?ab ?ac cR.out).mono ?_);(case ab => exact cM (Kd.C_below aC.out HB.out));(case ac => exact aD.out);rintro e dD ⟨cp,rfl,aI,hb⟩;have aN := aK (Kd.R_lower (Kd.R_new' aI (Kd.R_lt (rM ay.out))) (below_size (bG HB.out)));replace ay := aK (Kd.R_elder' (rM ay.out) (Kd.R_base aI) hb);replace HB := aK (below_step (bG HB.out) hb);(try clear hb);(try clear hk);(try clear aI);obtain ⟨cq,cr,bz⟩ := Kd.R_slice ay.out;subst bz;obtain ⟨ct,cu,bB⟩ := Kd.R_slice aN.out;subst bB)|(go_at_call 21;(with_reducible refine (r05_Same.calls k4 _ _ bm _ _ bn bT _ ?ab ?ac ?aL ?aM cS.out).mono ?_);(case ab => exact cM (Kd.R_reads' ay.out).2.2);(case ac => exact (Kd.R_reads' ay.out).2.1);(case aL => exact cM (Kd.R_reads' aN.out).2.2);(case aM => exact (Kd.R_reads' aN.out).2.1);rintro e w' ⟨rfl,⟨nd,rfl⟩⟩;(try first|exact ⟨rfl,_,World.drewN_drewN _ _ _⟩|exact ⟨rfl,_,Eq.trans (World.drewN_drewN _ _ _) (congrArg (World.drewN _) (Nat.add_assoc _ _ _))⟩))))
               go_ret
               exact ⟨by first|rfl|(simp [errW_none,errW_some] <;> rfl)|(simp [*,errW_none,errW_some] <;> rfl),bG HB.out⟩
  ·replace c6 := Bool.eq_false_iff.mpr c6
   subst c6
   rw [if_neg (show ¬ (false = true) by decide)] at H
   obtain rfl := Option.some.inj H
   go_enter Tryz.func7,Tryz.ntmps7
   go_wp2_with (first|((with_reducible refine gate_dst (N := 3) rfl ?_);(try (refine gate_guard (by rfl) ?_;dsimp only));refine box_event ?hg (N := 3) ?hd (cs := #[.int .i64 af,.int .i64 ah,.int .i64 an]) (t := 49) ?hr ?_;(case hd => rfl);(case hg => rfl);(case hr => first|(go_simp;done)|(go_simp;rfl));intro ag hg dE hbox hb;have ao := aK ((by rw [hg];exact (below_size (bM HB.out)) : w.heap.size ≤ ag));have aO := Ge.mk ao.out;have aE := aK ((by rw [hg];exact (below_size (bM HB.out)) : w.heap.size ≤ ag));have aP := Ge.mk aE.out;replace HB := aK (below_step (bM HB.out) hb);clear hb hbox hg)|(go_at_call 10;(with_reducible refine (l26_alive.calls k  true _ A3.out).mono ?_);rintro e dF ⟨rfl,hb⟩;replace HB := aK (below_step (bG HB.out) hb);(try clear hb);(try clear hk))|(go_at_call 17;(with_reducible refine (l26_right.calls k _ _ l0 false _ ?ab ?ac A5.out).mono ?_);(case ab => exact cM (Kd.C_below aC.out HB.out));(case ac => exact aD.out);rintro e dG ⟨rfl,hb⟩;replace HB := aK (below_step (bG HB.out) hb);(try clear hb);(try clear hk)))
   repeat (go_quiet (first|((with_reducible refine gate_dst (N := 3) rfl ?_);(try (refine gate_guard (by rfl) ?_;dsimp only));refine box_event ?hg (N := 3) ?hd (cs := #[.int .i64 af,.int .i64 ah,.int .i64 an]) (t := 49) ?hr ?_;(case hd => rfl);(case hg => rfl);(case hr => first|(go_simp;done)|(go_simp;rfl));intro ag hg dE hbox hb;have ao := aK ((by rw [hg];exact (below_size (bM HB.out)) : w.heap.size ≤ ag));have aO := Ge.mk ao.out;have aE := aK ((by rw [hg];exact (below_size (bM HB.out)) : w.heap.size ≤ ag));have aP := Ge.mk aE.out;replace HB := aK (below_step (bM HB.out) hb);clear hb hbox hg)|(go_at_call 10;(with_reducible refine (l26_alive.calls k  true _ A3.out).mono ?_);rintro e dF ⟨rfl,hb⟩;replace HB := aK (below_step (bG HB.out) hb);(try clear hb);(try clear hk))|(go_at_call 17;(with_reducible refine (l26_right.calls k _ _ l0 false _ ?ab ?ac A5.out).mono ?_);(case ab => exact cM (Kd.C_below aC.out HB.out));(case ac => exact aD.out);rintro e dG ⟨rfl,hb⟩;replace HB := aK (below_step (bG HB.out) hb);(try clear hb);(try clear hk)));try go_wp2_with (first|((with_reducible refine gate_dst (N := 3) rfl ?_);(try (refine gate_guard (by rfl) ?_;dsimp only));refine box_event ?hg (N := 3) ?hd (cs := #[.int .i64 af,.int .i64 ah,.int .i64 an]) (t := 49) ?hr ?_;(case hd => rfl);(case hg => rfl);(case hr => first|(go_simp;done)|(go_simp;rfl));intro ag hg dE hbox hb;have ao := aK ((by rw [hg];exact (below_size (bM HB.out)) : w.heap.size ≤ ag));have aO := Ge.mk ao.out;have aE := aK ((by rw [hg];exact (below_size (bM HB.out)) : w.heap.size ≤ ag));have aP := Ge.mk aE.out;replace HB := aK (below_step (bM HB.out) hb);clear hb hbox hg)|(go_at_call 10;(with_reducible refine (l26_alive.calls k  true _ A3.out).mono ?_);rintro e dF ⟨rfl,hb⟩;replace HB := aK (below_step (bG HB.out) hb);(try clear hb);(try clear hk))|(go_at_call 17;(with_reducible refine (l26_right.calls k _ _ l0 false _ ?ab ?ac A5.out).mono ?_);(case ab => exact cM (Kd.C_below aC.out HB.out));(case ac => exact aD.out);rintro e dG ⟨rfl,hb⟩;replace HB := aK (below_step (bG HB.out) hb);(try clear hb);(try clear hk))))
   go_ret
   exact ⟨by first|rfl|(simp [errW_none,errW_some] <;> rfl)|(simp [*,errW_none,errW_some] <;> rfl),bG HB.out⟩
 ·replace c4 := Bool.eq_false_iff.mpr c4
  subst c4
  rw [if_neg (show ¬ (false = true) by decide)] at H
  obtain rfl := Option.some.inj H
  go_enter Tryz.func7,Tryz.ntmps7
  go_wp2_with (first|((with_reducible refine gate_dst (N := 3) rfl ?_);(try (refine gate_guard (by rfl) ?_;dsimp only));refine box_event ?hg (N := 3) ?hd (cs := #[.int .i64 af,.int .i64 ah,.int .i64 an]) (t := 49) ?hr ?_;(case hd => rfl);(case hg => rfl);(case hr => first|(go_simp;done)|(go_simp;rfl));intro ag hg dH hbox hb;have ao := aK ((by rw [hg];exact (below_size (bM HB.out)) : w.heap.size ≤ ag));have aO := Ge.mk ao.out;have aE := aK ((by rw [hg];exact (below_size (bM HB.out)) : w.heap.size ≤ ag));have aP := Ge.mk aE.out;replace HB := aK (below_step (bM HB.out) hb);clear hb hbox hg)|(go_at_call 10;(with_reducible refine (l26_alive.calls k  false _ A3.out).mono ?_);rintro e dI ⟨rfl,hb⟩;replace HB := aK (below_step (bG HB.out) hb);(try clear hb);(try clear hk)))
  repeat (go_quiet (first|((with_reducible refine gate_dst (N := 3) rfl ?_);(try (refine gate_guard (by rfl) ?_;dsimp only));refine box_event ?hg (N := 3) ?hd (cs := #[.int .i64 af,.int .i64 ah,.int .i64 an]) (t := 49) ?hr ?_;(case hd => rfl);(case hg => rfl);(case hr => first|(go_simp;done)|(go_simp;rfl));intro ag hg dH hbox hb;have ao := aK ((by rw [hg];exact (below_size (bM HB.out)) : w.heap.size ≤ ag));have aO := Ge.mk ao.out;have aE := aK ((by rw [hg];exact (below_size (bM HB.out)) : w.heap.size ≤ ag));have aP := Ge.mk aE.out;replace HB := aK (below_step (bM HB.out) hb);clear hb hbox hg)|(go_at_call 10;(with_reducible refine (l26_alive.calls k  false _ A3.out).mono ?_);rintro e dI ⟨rfl,hb⟩;replace HB := aK (below_step (bG HB.out) hb);(try clear hb);(try clear hk)));try go_wp2_with (first|((with_reducible refine gate_dst (N := 3) rfl ?_);(try (refine gate_guard (by rfl) ?_;dsimp only));refine box_event ?hg (N := 3) ?hd (cs := #[.int .i64 af,.int .i64 ah,.int .i64 an]) (t := 49) ?hr ?_;(case hd => rfl);(case hg => rfl);(case hr => first|(go_simp;done)|(go_simp;rfl));intro ag hg dH hbox hb;have ao := aK ((by rw [hg];exact (below_size (bM HB.out)) : w.heap.size ≤ ag));have aO := Ge.mk ao.out;have aE := aK ((by rw [hg];exact (below_size (bM HB.out)) : w.heap.size ≤ ag));have aP := Ge.mk aE.out;replace HB := aK (below_step (bM HB.out) hb);clear hb hbox hg)|(go_at_call 10;(with_reducible refine (l26_alive.calls k  false _ A3.out).mono ?_);rintro e dI ⟨rfl,hb⟩;replace HB := aK (below_step (bG HB.out) hb);(try clear hb);(try clear hk))))
  go_ret
  exact ⟨by first|rfl|(simp [errW_none,errW_some] <;> rfl)|(simp [*,errW_none,errW_some] <;> rfl),bG HB.out⟩
end Go.Proofs.YtgadbpljlpclnaaGreatDoor.H
