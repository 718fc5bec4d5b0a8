import Derived.Test.YtgadbpljlpclnaaGreatDoorHx0
import Derived.Test.YtgadbpljlpclnaaGreatDoorHx6
import Derived.Test.YtgadbpljlpclnaaGreatDoorHx8
import Derived.Test.YtgadbpljlpclnaaGreatDoorHx14
import Derived.Test.YtgadbpljlpclnaaGreatDoorHx15
import Derived.Test.YtgadbpljlpclnaaGreatDoorHx20
import Derived.Test.YtgadbpljlpclnaaGreatDoorHx28
namespace Go.Proofs.YtgadbpljlpclnaaGreatDoor.H
open Go.RowKit Go.Proofs.YtgadbpljlpclnaaGreatDoorW.PrintWords Go.Proofs.YtgadbpljlpclnaaGreatDoorW.PrintLast Go.Proofs.YtgadbpljlpclnaaGreatDoorW.PrintMore
attribute [local go_sem] max2_int min2_int max_two min_two max_three min_three max_four min_four
set_option linter.unusedVariables false
set_option linter.unusedSimpArgs false

theorem vne_ {k : IntKind} {e base g n c : Nat} {ok : Nat → Prop} {W : World} {ad : Addr} {xs : List Int} (h : Kd.V (Kd.int k) e W base ok (.slice (some ad) n c) xs) (hok : ¬ ok g) (hn : 0 < xs.length) : ad.block ≠ g := by
 intro e_
 have hl := (Kd.V_at h).1
 have hC := Kd.V_F h {W with heap := W.heap.setIfInBounds g (.cells #[] 0 (0,0))} (fun k_ hk _ => by
  have : g ≠ k_ := fun e2 => hok (e2 ▸ hk)
  simp [Array.getElem?_setIfInBounds, this])
 obtain ⟨a2,e2,hx⟩ := Kd.at_int hC 0 (by omega) (by omega)
 cases e2
 have hb : (ad.add (0 : Int).toNat).block = g := by rw [add_block]; exact e_
 have h0 := hx
 simp only [World.cell?,hb] at h0
 by_cases hg : g < W.heap.size
 · simp [Array.getElem?_setIfInBounds,hg] at h0
 · simp [Array.getElem?_setIfInBounds,hg] at h0
/-! ### l26_HistoryChanges: function 9 -/
mutual
def l26_HistoryChanges.j0 : Nat → List (S28) → Int → Int → Int → List Int → List (S53) → Int → Int → Option (Bool)
|0,_,_,_,_,_,_,_,_ => none
|k + 1,x0,x1,x7,aa,ab,ac,ad,ae => (history_Tree.f k x0 x7).bind fun af => ((history_Tree.f k x0 x1).bind fun ag => (if af.2 = 0 then (l26_HistoryChanges.j1 k x0 x1 x7 af.1 ag.1 (ag.2 != 0) aa ab ac ad ae) else (l26_HistoryChanges.j1 k x0 x1 x7 af.1 ag.1 true aa ab ac ad ae)))
def l26_HistoryChanges.j1 : Nat → List (S28) → Int → Int → List (S55) → List (S55) → Bool → Int → List Int → List (S53) → Int → Int → Option (Bool)
|0,_,_,_,_,_,_,_,_,_,_,_ => none
|k + 1,x0,x1,x7,x8,ah,ai,aa,ab,ac,ad,ae => if ai = true then (some false) else ((r25_Diff.f k x8 ah).bind fun af => ((history_Touched.f k x0 x7 x1).bind fun ag => (l26_HistoryChanges.l0 k af ag 0 aa ab ac ad ae)))
def l26_HistoryChanges.l0 : Nat → List (S53) → List ByteArray → Int → Int → List Int → List (S53) → Int → Int → Option (Bool)
|0,_,_,_,_,_,_,_,_ => none
|k + 1,af,ag,ah,aa,ab,ac,ad,ae => if ah < (af.length : Int) then (l26_HistoryChanges.l1 k af ag ah false 0 aa ab ac ad ae) else (l26_HistoryChanges.l2 k ag 0 aa ab ac ad ae)
def l26_HistoryChanges.l1 : Nat → List (S53) → List ByteArray → Int → Bool → Int → Int → List Int → List (S53) → Int → Int → Option (Bool)
|0,_,_,_,_,_,_,_,_,_,_ => none
|k + 1,ag,ai,af,aj,ah,ab,ac,aa,ad,ae => if ah < (aa.length : Int) then (if aj = true then (l26_HistoryChanges.l1 k ag ai af true (wrap64 (ah + 1)) ab ac aa ad ae) else (if 0 ≤ ah then (if 0 ≤ af then (if af < (ag.length : Int) then (l26_HistoryChanges.l1 k ag ai af (((rd_T53 aa ah).f0).toList == ((rd_T53 ag af).f0).toList) (wrap64 (ah + 1)) ab ac aa ad ae) else (none)) else (none)) else (none))) else (if aj = true then (l26_HistoryChanges.l0 k ag ai (wrap64 (af + 1)) ab ac aa ad ae) else (some false))
def l26_HistoryChanges.l2 : Nat → List ByteArray → Int → Int → List Int → List (S53) → Int → Int → Option (Bool)
|0,_,_,_,_,_,_,_ => none
|k + 1,ag,af,ab,ac,aa,ad,ae => if af < (aa.length : Int) then (l26_HistoryChanges.l3 k ag af false 0 ab ac aa ad ae) else (some true)
def l26_HistoryChanges.l3 : Nat → List ByteArray → Int → Bool → Int → Int → List Int → List (S53) → Int → Int → Option (Bool)
|0,_,_,_,_,_,_,_,_,_ => none
|k + 1,ag,af,ai,ah,ab,ac,aa,ad,ae => if ah < (ag.length : Int) then (if ai = true then (l26_HistoryChanges.l3 k ag af true (wrap64 (ah + 1)) ab ac aa ad ae) else (if 0 ≤ ah then (if 0 ≤ af then (if af < (aa.length : Int) then (l26_HistoryChanges.l3 k ag af ((rdOf ByteArray.empty ag ah).toList == ((rd_T53 aa af).f0).toList) (wrap64 (ah + 1)) ab ac aa ad ae) else (none)) else (none)) else (none))) else (if ai = true then (l26_HistoryChanges.l2 k ag (wrap64 (af + 1)) ab ac aa ad ae) else (some false))
end
def l26_HistoryChanges.f (k : Nat) (l0 : List (S28)) (a1 : Int) : Option (Bool) := (l26_alive.f k).bind fun ab => (if ab = true then ((l26_right.f k l0).bind fun ac => (if ac = true then ((history_Get.f k l0 a1).bind fun aa => (if aa.2.2.2.2.2 = true then (if (aa.2.1.length : Int) > 0 then (if 0 < (aa.2.1.length : Int) then (l26_HistoryChanges.j0 k l0 a1 (rd aa.2.1 0) aa.1 aa.2.1 aa.2.2.1 aa.2.2.2.1 aa.2.2.2.2.1) else (none)) else (l26_HistoryChanges.j0 k l0 a1 0 aa.1 aa.2.1 aa.2.2.1 aa.2.2.2.1 aa.2.2.2.2.1)) else (some true))) else (some true))) else (some false))
theorem l26_HistoryChanges.mono_l : ∀ k, (∀ y0 y1 y2 y3 y4 y5 y6 y7, LeO (l26_HistoryChanges.j0 k y0 y1 y2 y3 y4 y5 y6 y7) (l26_HistoryChanges.j0 (k + 1) y0 y1 y2 y3 y4 y5 y6 y7)) ∧ (∀ y0 y1 y2 y3 y4 y5 y6 y7 y8 y9 y10, LeO (l26_HistoryChanges.j1 k y0 y1 y2 y3 y4 y5 y6 y7 y8 y9 y10) (l26_HistoryChanges.j1 (k + 1) y0 y1 y2 y3 y4 y5 y6 y7 y8 y9 y10)) ∧ (∀ y0 y1 y2 y3 y4 y5 y6 y7, LeO (l26_HistoryChanges.l0 k y0 y1 y2 y3 y4 y5 y6 y7) (l26_HistoryChanges.l0 (k + 1) y0 y1 y2 y3 y4 y5 y6 y7)) ∧ (∀ y0 y1 y2 y3 y4 y5 y6 y7 y8 y9, LeO (l26_HistoryChanges.l1 k y0 y1 y2 y3 y4 y5 y6 y7 y8 y9) (l26_HistoryChanges.l1 (k + 1) y0 y1 y2 y3 y4 y5 y6 y7 y8 y9)) ∧ (∀ y0 y1 y2 y3 y4 y5 y6, LeO (l26_HistoryChanges.l2 k y0 y1 y2 y3 y4 y5 y6) (l26_HistoryChanges.l2 (k + 1) y0 y1 y2 y3 y4 y5 y6)) ∧ (∀ y0 y1 y2 y3 y4 y5 y6 y7 y8, LeO (l26_HistoryChanges.l3 k y0 y1 y2 y3 y4 y5 y6 y7 y8) (l26_HistoryChanges.l3 (k + 1) y0 y1 y2 y3 y4 y5 y6 y7 y8))
|0 => ⟨fun _ _ _ _ _ _ _ _ r h => by simp [l26_HistoryChanges.j0] at h,fun _ _ _ _ _ _ _ _ _ _ _ r h => by simp [l26_HistoryChanges.j1] at h,fun _ _ _ _ _ _ _ _ r h => by simp [l26_HistoryChanges.l0] at h,fun _ _ _ _ _ _ _ _ _ _ r h => by simp [l26_HistoryChanges.l1] at h,fun _ _ _ _ _ _ _ r h => by simp [l26_HistoryChanges.l2] at h,fun _ _ _ _ _ _ _ _ _ r h => by simp [l26_HistoryChanges.l3] at h⟩
|k + 1 => by
  obtain ⟨ih0,ih1,ih2,ih3,ih4,ih5⟩ := l26_HistoryChanges.mono_l k
  refine ⟨?_,?_,?_,?_,?_,?_⟩
  ·intro y0 y1 y2 y3 y4 y5 y6 y7
   unfold l26_HistoryChanges.j0
   repeat' (with_reducible first|exact ih1 _ _ _ _ _ _ _ _ _ _ _|exact history_Tree.mono _ _ _|exact LeO.refl _|exact LeO.none _|refine LeO.ite ?_ ?_|refine LeO.bind ?_ (fun _ => ?_))
  ·intro y0 y1 y2 y3 y4 y5 y6 y7 y8 y9 y10
   unfold l26_HistoryChanges.j1
   repeat' (with_reducible first|exact ih2 _ _ _ _ _ _ _ _|exact r25_Diff.mono _ _ _|exact history_Touched.mono _ _ _ _|exact LeO.refl _|exact LeO.none _|refine LeO.ite ?_ ?_|refine LeO.bind ?_ (fun _ => ?_))
  ·intro y0 y1 y2 y3 y4 y5 y6 y7
   unfold l26_HistoryChanges.l0
   repeat' (with_reducible first|exact ih3 _ _ _ _ _ _ _ _ _ _|exact ih4 _ _ _ _ _ _ _|exact LeO.refl _|exact LeO.none _|refine LeO.ite ?_ ?_|refine LeO.bind ?_ (fun _ => ?_))
  ·intro y0 y1 y2 y3 y4 y5 y6 y7 y8 y9
   unfold l26_HistoryChanges.l1
   repeat' (with_reducible first|exact ih2 _ _ _ _ _ _ _ _|exact ih3 _ _ _ _ _ _ _ _ _ _|exact LeO.refl _|exact LeO.none _|refine LeO.ite ?_ ?_|refine LeO.bind ?_ (fun _ => ?_))
  ·intro y0 y1 y2 y3 y4 y5 y6
   unfold l26_HistoryChanges.l2
   repeat' (with_reducible first|exact ih5 _ _ _ _ _ _ _ _ _|exact LeO.refl _|exact LeO.none _|refine LeO.ite ?_ ?_|refine LeO.bind ?_ (fun _ => ?_))
  ·intro y0 y1 y2 y3 y4 y5 y6 y7 y8
   unfold l26_HistoryChanges.l3
   repeat' (with_reducible first|exact ih4 _ _ _ _ _ _ _|exact ih5 _ _ _ _ _ _ _ _ _|exact LeO.refl _|exact LeO.none _|refine LeO.ite ?_ ?_|refine LeO.bind ?_ (fun _ => ?_))
theorem l26_HistoryChanges.mono : ∀ a0 a1 k, LeO (l26_HistoryChanges.f k a0 a1) (l26_HistoryChanges.f (k + 1) a0 a1) := by
 intro a0 a1 k
 obtain ⟨ih0,ih1,ih2,ih3,ih4,ih5⟩ := l26_HistoryChanges.mono_l k
 unfold l26_HistoryChanges.f
 repeat' (with_reducible first|exact ih0 _ _ _ _ _ _ _ _|exact ih1 _ _ _ _ _ _ _ _ _ _ _|exact ih2 _ _ _ _ _ _ _ _|exact ih3 _ _ _ _ _ _ _ _ _ _|exact ih4 _ _ _ _ _ _ _|exact ih5 _ _ _ _ _ _ _ _ _|exact l26_alive.mono _|exact l26_right.mono _ _|exact r25_Diff.mono _ _ _|exact history_Get.mono _ _ _|exact history_Touched.mono _ _ _ _|exact history_Tree.mono _ _ _|exact LeO.refl _|exact LeO.none _|refine LeO.ite ?_ ?_|refine LeO.bind ?_ (fun _ => ?_))
set_option maxHeartbeats 4000000 in
set_option maxRecDepth 100000 in
theorem l26_HistoryChanges.calls (k : Nat) (A0 : Option Addr) (c0 : Nat) (l0 : List (S28)) (a1 : Int) (r : Bool) (w : World) (dj : Kd.C k28 w A0 l0.length l0) (dk : l0.length ≤ c0) (h : l26_HistoryChanges.f k l0 a1 = some r) :
  Calls Tryz.prog 9 #[.slice A0 l0.length c0,.int .i64 a1] w fun e w' => e = .returned (.bool r) ∧ Below w.heap.size w w' := by
 have dY := Tryz.underlying28
 have aP := aK dj
 have aQ := aK dk
 clear dj dk
 have HB := aK (Below.refl w.heap.size w)
 unfold l26_HistoryChanges.f at h
 have H := h
 clear h
 replace H := Option.bind_eq_some_iff.mp H
 obtain ⟨cP,dl,H⟩ := H
 have A3 := aK dl
 clear dl
 by_cases c4 : cP = true
 ·subst c4
  rw [if_pos rfl] at H
  replace H := Option.bind_eq_some_iff.mp H
  obtain ⟨cQ,dm,H⟩ := H
  have A5 := aK dm
  clear dm
  by_cases c6 : cQ = true
  ·subst c6
   rw [if_pos rfl] at H
   replace H := Option.bind_eq_some_iff.mp H
   obtain ⟨⟨al,ag,ah,an,ao,cu⟩,dn,H⟩ := H
   replace H : (if cu = true then (if (ag.length : Int) > 0 then (if 0 < (ag.length : Int) then (l26_HistoryChanges.j0 k l0 a1 (rd ag 0) al ag ah an ao) else (none)) else (l26_HistoryChanges.j0 k l0 a1 0 al ag ah an ao)) else (some true)) = some r := H
   have A7 := aK dn
   clear dn
   by_cases c8 : cu = true
   ·subst c8
    rw [if_pos rfl] at H
    have cR := aK H
    clear H
    go_enter Tryz.func9,Tryz.ntmps9
    go_upto_if 36 with (first|(go_at_call 10;(with_reducible refine (l26_alive.calls k  true _ A3.out).mono ?_);rintro e dp ⟨rfl,hb⟩;replace HB := aK (below_step (bM HB.out) hb);(try clear hb);(try clear hk))|(go_at_call 17;(with_reducible refine (l26_right.calls k _ _ l0 true _ ?ae ?af A5.out).mono ?_);(case ae => exact cM (Kd.C_below aP.out HB.out));(case af => exact aQ.out);rintro e dq ⟨rfl,hb⟩;replace HB := aK (below_step (bM HB.out) hb);(try clear hb);(try clear hk))|(go_at_call 12;(with_reducible refine (history_Get.calls k (fun k_ => k_ < w.heap.size) _ _ l0 a1 al ag ah an ao true _ ?ae A7.out).mono ?_);(case ae => exact Kd.V_mk aQ.out (Kd.F_below (Kd.C_F k28_heap aP.out) (bM HB.out)));rintro e dr ⟨bL,bN,rfl,ak,bb,hb⟩;have aj := aK (Kd.V_lower (Kd.V_mono (ok' := fun k_ => True) ak (fun k_ hk_ => trivial)) (below_size (bM HB.out)));have am := aK (Kd.V_lower (Kd.V_mono (ok' := fun k_ => True) bb (fun k_ hk_ => trivial)) (below_size (bM HB.out)));replace HB := aK (below_step (bM HB.out) hb);(try clear hb);(try clear hk);(try clear ak);(try clear bb))|((with_reducible refine gate_dst (N := 5) rfl ?_);refine box_event ?hg (N := 5) ?hd (cs := #[.int .i64 0,.slice none 0 0,.slice none 0 0,.int .i64 0,.int .i64 0]) (t := 28) ?hr ?_;(case hd => rfl);(case hg => rfl);(case hr => first|(go_simp;done)|(go_simp;rfl));intro ac hg cS hbox hb;replace aj := aK (Kd.V_below (Kd.V_elderB (vM aj.out) ac (Nat.le_of_eq hg.symm)) hb);replace am := aK (Kd.V_below (Kd.V_elderB (vM am.out) ac (Nat.le_of_eq hg.symm)) hb);have ad := aK (hbox);have az := aK ((by rw [hg];exact (below_size (bM HB.out)) : w.heap.size ≤ ac));have bc := Ge.mk az.out;have aA := aK ((by rw [hg];exact (below_size (bM HB.out)) : w.heap.size ≤ ac));have bd := Ge.mk aA.out;replace HB := aK (below_step (bM HB.out) hb);clear hb hbox hg;obtain ⟨aX,aY,aZ,a0,a2,a3,a4,a5,a6,a7⟩ := bk5_ ad.out;obtain ⟨ax,ap,bO⟩ := Kd.V_slice aj.out;subst bO;obtain ⟨ar,au,bP⟩ := Kd.V_slice am.out;subst bP))
    repeat (go_quiet (first|(go_at_call 10;(with_reducible refine (l26_alive.calls k  true _ A3.out).mono ?_);rintro e dp ⟨rfl,hb⟩;replace HB := aK (below_step (bM HB.out) hb);(try clear hb);(try clear hk))|(go_at_call 17;(with_reducible refine (l26_right.calls k _ _ l0 true _ ?ae ?af A5.out).mono ?_);(case ae => exact cM (Kd.C_below aP.out HB.out));(case af => exact aQ.out);rintro e dq ⟨rfl,hb⟩;replace HB := aK (below_step (bM HB.out) hb);(try clear hb);(try clear hk))|(go_at_call 12;(with_reducible refine (history_Get.calls k (fun k_ => k_ < w.heap.size) _ _ l0 a1 al ag ah an ao true _ ?ae A7.out).mono ?_);(case ae => exact Kd.V_mk aQ.out (Kd.F_below (Kd.C_F k28_heap aP.out) (bM HB.out)));rintro e dr ⟨bL,bN,rfl,ak,bb,hb⟩;have aj := aK (Kd.V_lower (Kd.V_mono (ok' := fun k_ => True) ak (fun k_ hk_ => trivial)) (below_size (bM HB.out)));have am := aK (Kd.V_lower (Kd.V_mono (ok' := fun k_ => True) bb (fun k_ hk_ => trivial)) (below_size (bM HB.out)));replace HB := aK (below_step (bM HB.out) hb);(try clear hb);(try clear hk);(try clear ak);(try clear bb))|((with_reducible refine gate_dst (N := 5) rfl ?_);refine box_event ?hg (N := 5) ?hd (cs := #[.int .i64 0,.slice none 0 0,.slice none 0 0,.int .i64 0,.int .i64 0]) (t := 28) ?hr ?_;(case hd => rfl);(case hg => rfl);(case hr => first|(go_simp;done)|(go_simp;rfl));intro ac hg cS hbox hb;replace aj := aK (Kd.V_below (Kd.V_elderB (vM aj.out) ac (Nat.le_of_eq hg.symm)) hb);replace am := aK (Kd.V_below (Kd.V_elderB (vM am.out) ac (Nat.le_of_eq hg.symm)) hb);have ad := aK (hbox);have az := aK ((by rw [hg];exact (below_size (bM HB.out)) : w.heap.size ≤ ac));have bc := Ge.mk az.out;have aA := aK ((by rw [hg];exact (below_size (bM HB.out)) : w.heap.size ≤ ac));have bd := Ge.mk aA.out;replace HB := aK (below_step (bM HB.out) hb);clear hb hbox hg;obtain ⟨aX,aY,aZ,a0,a2,a3,a4,a5,a6,a7⟩ := bk5_ ad.out;obtain ⟨ax,ap,bO⟩ := Kd.V_slice aj.out;subst bO;obtain ⟨ar,au,bP⟩ := Kd.V_slice am.out;subst bP));go_upto_if 36 with (first|(go_at_call 10;(with_reducible refine (l26_alive.calls k  true _ A3.out).mono ?_);rintro e dp ⟨rfl,hb⟩;replace HB := aK (below_step (bM HB.out) hb);(try clear hb);(try clear hk))|(go_at_call 17;(with_reducible refine (l26_right.calls k _ _ l0 true _ ?ae ?af A5.out).mono ?_);(case ae => exact cM (Kd.C_below aP.out HB.out));(case af => exact aQ.out);rintro e dq ⟨rfl,hb⟩;replace HB := aK (below_step (bM HB.out) hb);(try clear hb);(try clear hk))|(go_at_call 12;(with_reducible refine (history_Get.calls k (fun k_ => k_ < w.heap.size) _ _ l0 a1 al ag ah an ao true _ ?ae A7.out).mono ?_);(case ae => exact Kd.V_mk aQ.out (Kd.F_below (Kd.C_F k28_heap aP.out) (bM HB.out)));rintro e dr ⟨bL,bN,rfl,ak,bb,hb⟩;have aj := aK (Kd.V_lower (Kd.V_mono (ok' := fun k_ => True) ak (fun k_ hk_ => trivial)) (below_size (bM HB.out)));have am := aK (Kd.V_lower (Kd.V_mono (ok' := fun k_ => True) bb (fun k_ hk_ => trivial)) (below_size (bM HB.out)));replace HB := aK (below_step (bM HB.out) hb);(try clear hb);(try clear hk);(try clear ak);(try clear bb))|((with_reducible refine gate_dst (N := 5) rfl ?_);refine box_event ?hg (N := 5) ?hd (cs := #[.int .i64 0,.slice none 0 0,.slice none 0 0,.int .i64 0,.int .i64 0]) (t := 28) ?hr ?_;(case hd => rfl);(case hg => rfl);(case hr => first|(go_simp;done)|(go_simp;rfl));intro ac hg cS hbox hb;replace aj := aK (Kd.V_below (Kd.V_elderB (vM aj.out) ac (Nat.le_of_eq hg.symm)) hb);replace am := aK (Kd.V_below (Kd.V_elderB (vM am.out) ac (Nat.le_of_eq hg.symm)) hb);have ad := aK (hbox);have az := aK ((by rw [hg];exact (below_size (bM HB.out)) : w.heap.size ≤ ac));have bc := Ge.mk az.out;have aA := aK ((by rw [hg];exact (below_size (bM HB.out)) : w.heap.size ≤ ac));have bd := Ge.mk aA.out;replace HB := aK (below_step (bM HB.out) hb);clear hb hbox hg;obtain ⟨aX,aY,aZ,a0,a2,a3,a4,a5,a6,a7⟩ := bk5_ ad.out;obtain ⟨ax,ap,bO⟩ := Kd.V_slice aj.out;subst bO;obtain ⟨ar,au,bP⟩ := Kd.V_slice am.out;subst bP)))
    (try simp only [Act.put,z1_,z2_,z3_])
    go_cut [7] (fun v7 wc => ∃ (kq : Nat) (aG : Int),v7 = .int .i64 aG ∧ Aside0 (l26_HistoryChanges.j0 kq l0 a1 aG al ag ah an ao = some r) ∧ Aside0 (kq ≤ k) ∧ Aside0 (Kd.V (Kd.int .i64) 3 wc w.heap.size (fun k_ => k_ ≠ ac) (.slice ax ag.length ap) ag) ∧ Aside0 (Kd.V k53 53 wc w.heap.size (fun k_ => k_ ≠ ac) (.slice ar ah.length au) ah) ∧ Aside0 (wc.heap[ac]? = some (.cells #[.int .i64 al,(.slice ax ag.length ap),(.slice ar ah.length au),.int .i64 an,.int .i64 ao] 28 (0,0))) ∧ Aside0 (Below w.heap.size w wc))
    case first =>
     have H := cR.out
     clear cR
     by_cases cp : (ag.length : Int) > 0
     ·rw [if_pos cp] at H
      have be := decide_eq_true cp
      have bQ : decide (0 < ag.length) = true := decide_eq_true (by omega)
      clear cp
      (first|rw [be]|(simp only [i64_w,i32_w];rw [be])|rw [bQ]|skip)
      obtain ⟨ds,H⟩ := iS H
      have dt := decide_eq_true ds
      have du : decide (0 < ag.length) = true := decide_eq_true (by omega)
      clear ds
      have H' := aK H
      clear H
      obtain ⟨_,_,_,_,_,_,_,_,_,_⟩ := bk5_ ad.out
      have a8 : 0 ≤ (0 : Int) := (by omega)
      have a9 : 0 < (ag.length : Int) := dA
      obtain ⟨ay,cT,ai⟩ := Kd.at_int (Kd.V_reads' aj.out).2.2 0 a8 a9
      cases cT
      have dv : (0 < ag.length) = True := eq_true (by omega)
      (try rw [show ((0 : Int)).toNat = 0 from rfl] at ai)
      (try rw [Addr.add_zero'] at ai)
      have aR : ay.block ≠ ac := vne_ aj.out (fun h => h.2 rfl) (by omega)
      have aS : ay.block ≠ ac := vne_ aj.out (fun h => h.2 rfl) (by omega)
      have aT : ay.block ≠ ac := vne_ aj.out (fun h => h.2 rfl) (by omega)
      have aU : ay.block ≠ ac := vne_ aj.out (fun h => h.2 rfl) (by omega)
      have aV : ay.block ≠ ac := vne_ aj.out (fun h => h.2 rfl) (by omega)
      replace ai := (cell_far (p := ⟨ac,0,none⟩) (by first|(rw [add_block];exact aR)|(show (Addr.add _ _).block ≠ _;rw [add_block];exact aR)|exact aR) (.int .i64 al)).trans ai
      replace ai := (cell_far (p := ⟨ac,1,none⟩) (by first|(rw [add_block];exact aS)|(show (Addr.add _ _).block ≠ _;rw [add_block];exact aS)|exact aS) (.slice (some ay) ag.length ap)).trans ai
      replace ai := (cell_far (p := ⟨ac,2,none⟩) (by first|(rw [add_block];exact aT)|(show (Addr.add _ _).block ≠ _;rw [add_block];exact aT)|exact aT) (.slice ar ah.length au)).trans ai
      replace ai := (cell_far (p := ⟨ac,3,none⟩) (by first|(rw [add_block];exact aU)|(show (Addr.add _ _).block ≠ _;rw [add_block];exact aU)|exact aU) (.int .i64 an)).trans ai
      replace ai := (cell_far (p := ⟨ac,4,none⟩) (by first|(rw [add_block];exact aV)|(show (Addr.add _ _).block ≠ _;rw [add_block];exact aV)|exact aV) (.int .i64 ao)).trans ai
      (try have cG := fun (n_ : Nat) => (show (((((((cS.drewN n_).setCell ⟨ac,0,none⟩ (.int .i64 al)).setCell ⟨ac,1,none⟩ (.slice (some ay) ag.length ap)).setCell ⟨ac,2,none⟩ (.slice ar ah.length au)).setCell ⟨ac,3,none⟩ (.int .i64 an)).setCell ⟨ac,4,none⟩ (.int .i64 ao))).cell? _ = some _ from ai))
      clear aR
      clear aS
      clear aT
      clear aU
      clear aV
      replace a8 := eq_true a8
      replace a9 := eq_true a9
      go_wp2
      repeat (go_quiet (fail);try go_wp2)
      go_meet
      case rel => exact ⟨_,(rd ag 0),(by first|rfl|(simp;done)|(simp [*];done)),H',⟨by first|omega|exact Nat.le_refl _⟩,⟨by (with_reducible repeat (first|apply Kd.V_alloc|apply Kd.V_drewN|apply Kd.V_drew));exact Kd.V_mono (Kd.V_far (p := ⟨ac,4,none⟩) (Kd.V_far (p := ⟨ac,3,none⟩) (Kd.V_far (p := ⟨ac,2,none⟩) (Kd.V_far (p := ⟨ac,1,none⟩) (Kd.V_far (p := ⟨ac,0,none⟩) (Kd.V_mono aj.out (fun k_ hk => (⟨hk,hk.2⟩ : _ ∧ k_ ≠ ac))) (fun _ hk => hk.2) (.int .i64 al)) (fun _ hk => hk.2) (.slice (some ay) ag.length ap)) (fun _ hk => hk.2) (.slice ar ah.length au)) (fun _ hk => hk.2) (.int .i64 an)) (fun _ hk => hk.2) (.int .i64 ao)) (fun _ hk => hk.1.2)⟩,⟨by (with_reducible repeat (first|apply Kd.V_alloc|apply Kd.V_drewN|apply Kd.V_drew));exact Kd.V_mono (Kd.V_far (p := ⟨ac,4,none⟩) (Kd.V_far (p := ⟨ac,3,none⟩) (Kd.V_far (p := ⟨ac,2,none⟩) (Kd.V_far (p := ⟨ac,1,none⟩) (Kd.V_far (p := ⟨ac,0,none⟩) (Kd.V_mono am.out (fun k_ hk => (⟨hk,hk.2⟩ : _ ∧ k_ ≠ ac))) (fun _ hk => hk.2) (.int .i64 al)) (fun _ hk => hk.2) (.slice (some ay) ag.length ap)) (fun _ hk => hk.2) (.slice ar ah.length au)) (fun _ hk => hk.2) (.int .i64 an)) (fun _ hk => hk.2) (.int .i64 ao)) (fun _ hk => hk.1.2)⟩,⟨by refine kO ?_;refine blk_put (cs := #[.int .i64 al,.slice (some ay) ag.length ap,.slice ar ah.length au,.int .i64 an,.int .i64 0]) ?_ 4 _ rfl;refine kO ?_;refine blk_put (cs := #[.int .i64 al,.slice (some ay) ag.length ap,.slice ar ah.length au,.int .i64 0,.int .i64 0]) ?_ 3 _ rfl;refine kO ?_;refine blk_put (cs := #[.int .i64 al,.slice (some ay) ag.length ap,.slice none 0 0,.int .i64 0,.int .i64 0]) ?_ 2 _ rfl;refine kO ?_;refine blk_put (cs := #[.int .i64 al,.slice none 0 0,.slice none 0 0,.int .i64 0,.int .i64 0]) ?_ 1 _ rfl;refine kO ?_;refine blk_put (cs := #[.int .i64 0,.slice none 0 0,.slice none 0 0,.int .i64 0,.int .i64 0]) ?_ 0 _ rfl;refine kO ?_;exact ad.out⟩,⟨bG HB.out⟩⟩
     ·rw [if_neg cp] at H
      have be := decide_eq_false cp
      have bQ : decide (0 < ag.length) = false := decide_eq_false (by omega)
      clear cp
      (first|rw [be]|(simp only [i64_w,i32_w];rw [be])|rw [bQ]|skip)
      have H' := aK H
      clear H
      go_wp2
      repeat (go_quiet (fail);try go_wp2)
      go_meet
      case rel => exact ⟨_,(0),(by first|rfl|(simp;done)|(simp [*];done)),H',⟨by first|omega|exact Nat.le_refl _⟩,⟨by (with_reducible repeat (first|apply Kd.V_alloc|apply Kd.V_drewN|apply Kd.V_drew));exact Kd.V_mono (Kd.V_far (p := ⟨ac,4,none⟩) (Kd.V_far (p := ⟨ac,3,none⟩) (Kd.V_far (p := ⟨ac,2,none⟩) (Kd.V_far (p := ⟨ac,1,none⟩) (Kd.V_far (p := ⟨ac,0,none⟩) (Kd.V_mono aj.out (fun k_ hk => (⟨hk,hk.2⟩ : _ ∧ k_ ≠ ac))) (fun _ hk => hk.2) (.int .i64 al)) (fun _ hk => hk.2) (.slice ax ag.length ap)) (fun _ hk => hk.2) (.slice ar ah.length au)) (fun _ hk => hk.2) (.int .i64 an)) (fun _ hk => hk.2) (.int .i64 ao)) (fun _ hk => hk.1.2)⟩,⟨by (with_reducible repeat (first|apply Kd.V_alloc|apply Kd.V_drewN|apply Kd.V_drew));exact Kd.V_mono (Kd.V_far (p := ⟨ac,4,none⟩) (Kd.V_far (p := ⟨ac,3,none⟩) (Kd.V_far (p := ⟨ac,2,none⟩) (Kd.V_far (p := ⟨ac,1,none⟩) (Kd.V_far (p := ⟨ac,0,none⟩) (Kd.V_mono am.out (fun k_ hk => (⟨hk,hk.2⟩ : _ ∧ k_ ≠ ac))) (fun _ hk => hk.2) (.int .i64 al)) (fun _ hk => hk.2) (.slice ax ag.length ap)) (fun _ hk => hk.2) (.slice ar ah.length au)) (fun _ hk => hk.2) (.int .i64 an)) (fun _ hk => hk.2) (.int .i64 ao)) (fun _ hk => hk.1.2)⟩,⟨by refine kO ?_;refine blk_put (cs := #[.int .i64 al,.slice ax ag.length ap,.slice ar ah.length au,.int .i64 an,.int .i64 0]) ?_ 4 _ rfl;refine kO ?_;refine blk_put (cs := #[.int .i64 al,.slice ax ag.length ap,.slice ar ah.length au,.int .i64 0,.int .i64 0]) ?_ 3 _ rfl;refine kO ?_;refine blk_put (cs := #[.int .i64 al,.slice ax ag.length ap,.slice none 0 0,.int .i64 0,.int .i64 0]) ?_ 2 _ rfl;refine kO ?_;refine blk_put (cs := #[.int .i64 al,.slice none 0 0,.slice none 0 0,.int .i64 0,.int .i64 0]) ?_ 1 _ rfl;refine kO ?_;refine blk_put (cs := #[.int .i64 0,.slice none 0 0,.slice none 0 0,.int .i64 0,.int .i64 0]) ?_ 0 _ rfl;refine kO ?_;exact ad.out⟩,⟨bG HB.out⟩⟩
    case rest =>
     clear cR
     try clear p2
     try clear c4
     try clear c6
     try clear p7
     try clear q7
     try clear hx7
     try clear qi7
     try clear c8
     try clear aX
     try clear aY
     try clear aZ
     try clear a0
     try clear a2
     try clear a3
     try clear a4
     try clear a5
     try clear a6
     try clear a7
     try clear ai
     try clear a8
     try clear a9
     obtain ⟨kq,aG,rfl,HA,bk,ab,aa,ad,HB⟩ := hcut
     cases kq with
    |zero => exact absurd HA.out (by simp [l26_HistoryChanges.j0])
    |succ kj8 =>
      have H := HA.out
      clear HA
      simp only [l26_HistoryChanges.j0] at H
      replace H := Option.bind_eq_some_iff.mp H
      obtain ⟨⟨aN,bF⟩,cv,H⟩ := H
      replace H : ((history_Tree.f kj8 l0 a1).bind fun bR => (if bF = 0 then (l26_HistoryChanges.j1 kj8 l0 a1 aG aN bR.1 (bR.2 != 0) al ag ah an ao) else (l26_HistoryChanges.j1 kj8 l0 a1 aG aN bR.1 true al ag ah an ao))) = some r := H
      have cU := aK cv
      clear cv
      replace H := Option.bind_eq_some_iff.mp H
      obtain ⟨⟨aW,bS⟩,cw,H⟩ := H
      replace H : (if bF = 0 then (l26_HistoryChanges.j1 kj8 l0 a1 aG aN aW (bS != 0) al ag ah an ao) else (l26_HistoryChanges.j1 kj8 l0 a1 aG aN aW true al ag ah an ao)) = some r := H
      have cV := aK cw
      clear cw
      have cf := aK H
      clear H
      go_upto_region 13 with (first|(go_at_call 18;(with_reducible refine (history_Tree.calls kj8 _ _ l0 aG aN bF _ ?ae ?af cU.out).mono ?_);(case ae => exact cM (Kd.C_below aP.out HB.out));(case af => exact aQ.out);rintro e dw ⟨bH,rfl,ak,hb⟩;replace ab := aK (Kd.V_elder' (vM ab.out) (Kd.R_base ak) hb);replace aa := aK (Kd.V_elder' (vM aa.out) (Kd.R_base ak) hb);have aw := aK (Kd.R_lower ak (below_size (bG HB.out)));replace ad := aK (blk_below (kM ad.out) hb);replace HB := aK (below_step (bG HB.out) hb);(try clear hb);(try clear hk);(try clear ak))|(go_at_call 18;(with_reducible refine (history_Tree.calls kj8 _ _ l0 a1 aW bS _ ?ae ?af cV.out).mono ?_);(case ae => exact cM (Kd.C_below aP.out HB.out));(case af => exact aQ.out);rintro e dx ⟨bI,rfl,ak,hb⟩;replace ab := aK (Kd.V_elder' (vM ab.out) (Kd.R_base ak) hb);replace aa := aK (Kd.V_elder' (vM aa.out) (Kd.R_base ak) hb);have bm := aK (Kd.R_lower (Kd.R_new' ak (Kd.R_lt (rM aw.out))) (below_size (bG HB.out)));replace aw := aK (Kd.R_elder' (rM aw.out) (Kd.R_base ak) hb);replace ad := aK (blk_below (kM ad.out) hb);replace HB := aK (below_step (bG HB.out) hb);(try clear hb);(try clear hk);(try clear ak)))
      repeat (go_quiet (first|(go_at_call 18;(with_reducible refine (history_Tree.calls kj8 _ _ l0 aG aN bF _ ?ae ?af cU.out).mono ?_);(case ae => exact cM (Kd.C_below aP.out HB.out));(case af => exact aQ.out);rintro e dw ⟨bH,rfl,ak,hb⟩;replace ab := aK (Kd.V_elder' (vM ab.out) (Kd.R_base ak) hb);replace aa := aK (Kd.V_elder' (vM aa.out) (Kd.R_base ak) hb);have aw := aK (Kd.R_lower ak (below_size (bG HB.out)));replace ad := aK (blk_below (kM ad.out) hb);replace HB := aK (below_step (bG HB.out) hb);(try clear hb);(try clear hk);(try clear ak))|(go_at_call 18;(with_reducible refine (history_Tree.calls kj8 _ _ l0 a1 aW bS _ ?ae ?af cV.out).mono ?_);(case ae => exact cM (Kd.C_below aP.out HB.out));(case af => exact aQ.out);rintro e dx ⟨bI,rfl,ak,hb⟩;replace ab := aK (Kd.V_elder' (vM ab.out) (Kd.R_base ak) hb);replace aa := aK (Kd.V_elder' (vM aa.out) (Kd.R_base ak) hb);have bm := aK (Kd.R_lower (Kd.R_new' ak (Kd.R_lt (rM aw.out))) (below_size (bG HB.out)));replace aw := aK (Kd.R_elder' (rM aw.out) (Kd.R_base ak) hb);replace ad := aK (blk_below (kM ad.out) hb);replace HB := aK (below_step (bG HB.out) hb);(try clear hb);(try clear hk);(try clear ak)));go_upto_region 13 with (first|(go_at_call 18;(with_reducible refine (history_Tree.calls kj8 _ _ l0 aG aN bF _ ?ae ?af cU.out).mono ?_);(case ae => exact cM (Kd.C_below aP.out HB.out));(case af => exact aQ.out);rintro e dw ⟨bH,rfl,ak,hb⟩;replace ab := aK (Kd.V_elder' (vM ab.out) (Kd.R_base ak) hb);replace aa := aK (Kd.V_elder' (vM aa.out) (Kd.R_base ak) hb);have aw := aK (Kd.R_lower ak (below_size (bG HB.out)));replace ad := aK (blk_below (kM ad.out) hb);replace HB := aK (below_step (bG HB.out) hb);(try clear hb);(try clear hk);(try clear ak))|(go_at_call 18;(with_reducible refine (history_Tree.calls kj8 _ _ l0 a1 aW bS _ ?ae ?af cV.out).mono ?_);(case ae => exact cM (Kd.C_below aP.out HB.out));(case af => exact aQ.out);rintro e dx ⟨bI,rfl,ak,hb⟩;replace ab := aK (Kd.V_elder' (vM ab.out) (Kd.R_base ak) hb);replace aa := aK (Kd.V_elder' (vM aa.out) (Kd.R_base ak) hb);have bm := aK (Kd.R_lower (Kd.R_new' ak (Kd.R_lt (rM aw.out))) (below_size (bG HB.out)));replace aw := aK (Kd.R_elder' (rM aw.out) (Kd.R_base ak) hb);replace ad := aK (blk_below (kM ad.out) hb);replace HB := aK (below_step (bG HB.out) hb);(try clear hb);(try clear hk);(try clear ak))))
      (try simp only [Act.put,z1_,z2_,z3_])
      go_cut [58] (fun dZ wc => ∃ (kq : Nat) (ba : Bool),dZ = .bool ba ∧ Aside0 (l26_HistoryChanges.j1 kq l0 a1 aG aN aW ba al ag ah an ao = some r) ∧ Aside0 (kq ≤ kj8) ∧ Aside0 (Kd.R k55 55 wc w.heap.size (fun k_ => some k_ ≠ (bI : Value).ownBlock) bH aN) ∧ Aside0 (Kd.R k55 55 wc w.heap.size (fun k_ => some k_ ≠ (bH : Value).ownBlock) bI aW) ∧ Aside0 (Kd.V (Kd.int .i64) 3 wc w.heap.size (fun k_ => some k_ ≠ (bH : Value).ownBlock ∧ some k_ ≠ (bI : Value).ownBlock ∧ k_ ≠ ac) (.slice ax ag.length ap) ag) ∧ Aside0 (Kd.V k53 53 wc w.heap.size (fun k_ => some k_ ≠ (bH : Value).ownBlock ∧ some k_ ≠ (bI : Value).ownBlock ∧ k_ ≠ ac) (.slice ar ah.length au) ah) ∧ Aside0 (wc.heap[ac]? = some (.cells #[.int .i64 al,(.slice ax ag.length ap),(.slice ar ah.length au),.int .i64 an,.int .i64 ao] 28 (0,0))) ∧ Aside0 (Below w.heap.size w wc))
      case first =>
       have H := cf.out
       clear cf
       by_cases cg : bF = 0
       ·rw [if_pos cg] at H
        have bf := beq_iff_eq.mpr cg
        have bT := bne_eq_false_iff_eq.mpr cg
        clear cg
        (first|rw [bf]|(simp only [i64_w,i32_w];rw [bf])|rw [bT]|skip)
        have H' := aK H
        clear H
        go_wp2
        repeat (go_quiet (fail);try go_wp2)
        go_meet
        case rel => exact ⟨_,((bS != 0)),(by first|rfl|(simp;done)|(simp [*];done)),H',⟨by have := bk.out;first|omega|exact Nat.le_refl _⟩,⟨by refine rO ?_;exact Kd.R_mono aw.out (fun _ hk => hk.2)⟩,⟨by refine rO ?_;exact Kd.R_mono bm.out (fun _ hk => hk.2)⟩,⟨by (with_reducible repeat (first|apply Kd.V_alloc|apply Kd.V_drewN|apply Kd.V_drew));exact Kd.V_mono ab.out (fun _ hk => ⟨hk.1.2,⟨hk.2,hk.1.1⟩⟩)⟩,⟨by (with_reducible repeat (first|apply Kd.V_alloc|apply Kd.V_drewN|apply Kd.V_drew));exact Kd.V_mono aa.out (fun _ hk => ⟨hk.1.2,⟨hk.2,hk.1.1⟩⟩)⟩,⟨kM ad.out⟩,⟨bG HB.out⟩⟩
       ·rw [if_neg cg] at H
        have bf := beq_eq_false_iff_ne.mpr cg
        have bT := bne_iff_ne.mpr cg
        (first|rw [bf]|(simp only [i64_w,i32_w];rw [bf])|rw [bT]|skip)
        have H' := aK H
        clear H
        go_wp2
        repeat (go_quiet (fail);try go_wp2)
        go_meet
        case rel => exact ⟨_,(true),(by first|rfl|(simp;done)|(simp [*];done)),H',⟨by have := bk.out;first|omega|exact Nat.le_refl _⟩,⟨by refine rO ?_;exact Kd.R_mono aw.out (fun _ hk => hk.2)⟩,⟨by refine rO ?_;exact Kd.R_mono bm.out (fun _ hk => hk.2)⟩,⟨by (with_reducible repeat (first|apply Kd.V_alloc|apply Kd.V_drewN|apply Kd.V_drew));exact Kd.V_mono ab.out (fun _ hk => ⟨hk.1.2,⟨hk.2,hk.1.1⟩⟩)⟩,⟨by (with_reducible repeat (first|apply Kd.V_alloc|apply Kd.V_drewN|apply Kd.V_drew));exact Kd.V_mono aa.out (fun _ hk => ⟨hk.1.2,⟨hk.2,hk.1.1⟩⟩)⟩,⟨kM ad.out⟩,⟨bG HB.out⟩⟩
      case rest =>
       clear cf
       try clear p2
       try clear p7
       try clear q7
       try clear hx7
       try clear qi7
       try clear ai
       try clear p2
       try clear p7
       try clear a8
       try clear q7
       try clear a9
       obtain ⟨kq,ba,rfl,HA,aO,aF,av,ab,aa,ad,HB⟩ := hcut
       cases kq with
      |zero => exact absurd HA.out (by simp [l26_HistoryChanges.j1])
      |succ kj21 =>
        have H := HA.out
        clear HA
        simp only [l26_HistoryChanges.j1] at H
        by_cases cx : ba = true
        ·subst cx
         rw [if_pos rfl] at H
         obtain rfl := Option.some.inj H
         go_wp2
         repeat (go_quiet (fail);try go_wp2)
         go_ret
         exact ⟨by first|rfl|(simp [errW_none,errW_some] <;> rfl)|(simp [*,errW_none,errW_some] <;> rfl),bG HB.out⟩
        ·replace cx := Bool.eq_false_iff.mpr cx
         subst cx
         rw [if_neg (show ¬ (false = true) by decide)] at H
         replace H := Option.bind_eq_some_iff.mp H
         obtain ⟨aL,cy,H⟩ := H
         have cW := aK cy
         clear cy
         replace H := Option.bind_eq_some_iff.mp H
         obtain ⟨aH,cz,H⟩ := H
         have cX := aK cz
         clear cz
         have H' := aK H
         clear H
         obtain ⟨d0,d1,cY⟩ := Kd.R_slice aF.out
         subst cY
         obtain ⟨d2,d3,cZ⟩ := Kd.R_slice av.out
         subst cZ
         go_wp2_with (first|(go_at_call 34;(with_reducible refine (r25_Diff.calls kj21 _ _ aN _ _ aW aL _ ?ae ?af ?bg ?bh cW.out).mono ?_);(case ae => exact cM (Kd.R_reads' aF.out).2.2);(case af => exact (Kd.R_reads' aF.out).2.1);(case bg => exact cM (Kd.R_reads' av.out).2.2);(case bh => exact (Kd.R_reads' av.out).2.1);rintro e dy ⟨bU,rfl,ak,hb⟩;replace aF := aK (Kd.R_below (rM aF.out) hb);replace av := aK (Kd.R_below (rM av.out) hb);replace ab := aK (Kd.V_elder' (vM ab.out) (Kd.R_base ak) hb);replace aa := aK (Kd.V_elder' (vM aa.out) (Kd.R_base ak) hb);have aI := aK (Kd.R_lower ak (below_size (bG HB.out)));replace ad := aK (blk_below (kM ad.out) hb);replace HB := aK (below_step (bG HB.out) hb);(try clear hb);(try clear hk);(try clear ak))|(go_at_call 31;(with_reducible refine (history_Touched.calls kj21 _ _ l0 aG a1 aH _ ?ae ?af cX.out).mono ?_);(case ae => exact cM (Kd.C_below aP.out HB.out));(case af => exact aQ.out);rintro e dz ⟨aJ,rfl,ak,hb⟩;replace aF := aK (Kd.R_below (rM aF.out) hb);replace av := aK (Kd.R_below (rM av.out) hb);replace ab := aK (Kd.V_elder' (vM ab.out) (Kd.R_base ak) hb);replace aa := aK (Kd.V_elder' (vM aa.out) (Kd.R_base ak) hb);replace aI := aK (Kd.R_below (rM aI.out) hb);have bV := aK (Kd.R_lower ak (below_size (bG HB.out)));replace ad := aK (blk_below (kM ad.out) hb);replace HB := aK (below_step (bG HB.out) hb);(try clear hb);(try clear hk);(try clear ak)))
         repeat (go_quiet (first|(go_at_call 34;(with_reducible refine (r25_Diff.calls kj21 _ _ aN _ _ aW aL _ ?ae ?af ?bg ?bh cW.out).mono ?_);(case ae => exact cM (Kd.R_reads' aF.out).2.2);(case af => exact (Kd.R_reads' aF.out).2.1);(case bg => exact cM (Kd.R_reads' av.out).2.2);(case bh => exact (Kd.R_reads' av.out).2.1);rintro e dy ⟨bU,rfl,ak,hb⟩;replace aF := aK (Kd.R_below (rM aF.out) hb);replace av := aK (Kd.R_below (rM av.out) hb);replace ab := aK (Kd.V_elder' (vM ab.out) (Kd.R_base ak) hb);replace aa := aK (Kd.V_elder' (vM aa.out) (Kd.R_base ak) hb);have aI := aK (Kd.R_lower ak (below_size (bG HB.out)));replace ad := aK (blk_below (kM ad.out) hb);replace HB := aK (below_step (bG HB.out) hb);(try clear hb);(try clear hk);(try clear ak))|(go_at_call 31;(with_reducible refine (history_Touched.calls kj21 _ _ l0 aG a1 aH _ ?ae ?af cX.out).mono ?_);(case ae => exact cM (Kd.C_below aP.out HB.out));(case af => exact aQ.out);rintro e dz ⟨aJ,rfl,ak,hb⟩;replace aF := aK (Kd.R_below (rM aF.out) hb);replace av := aK (Kd.R_below (rM av.out) hb);replace ab := aK (Kd.V_elder' (vM ab.out) (Kd.R_base ak) hb);replace aa := aK (Kd.V_elder' (vM aa.out) (Kd.R_base ak) hb);replace aI := aK (Kd.R_below (rM aI.out) hb);have bV := aK (Kd.R_lower ak (below_size (bG HB.out)));replace ad := aK (blk_below (kM ad.out) hb);replace HB := aK (below_step (bG HB.out) hb);(try clear hb);(try clear hk);(try clear ak)));try go_wp2_with (first|(go_at_call 34;(with_reducible refine (r25_Diff.calls kj21 _ _ aN _ _ aW aL _ ?ae ?af ?bg ?bh cW.out).mono ?_);(case ae => exact cM (Kd.R_reads' aF.out).2.2);(case af => exact (Kd.R_reads' aF.out).2.1);(case bg => exact cM (Kd.R_reads' av.out).2.2);(case bh => exact (Kd.R_reads' av.out).2.1);rintro e dy ⟨bU,rfl,ak,hb⟩;replace ab := aK (Kd.V_elder' (vM ab.out) (Kd.R_base ak) hb);replace aa := aK (Kd.V_elder' (vM aa.out) (Kd.R_base ak) hb);have aI := aK (Kd.R_lower ak (below_size (bG HB.out)));replace ad := aK (blk_below (kM ad.out) hb);replace HB := aK (below_step (bG HB.out) hb);(try clear hb);(try clear hk);(try clear ak))|(go_at_call 31;(with_reducible refine (history_Touched.calls kj21 _ _ l0 aG a1 aH _ ?ae ?af cX.out).mono ?_);(case ae => exact cM (Kd.C_below aP.out HB.out));(case af => exact aQ.out);rintro e dz ⟨aJ,rfl,ak,hb⟩;replace ab := aK (Kd.V_elder' (vM ab.out) (Kd.R_base ak) hb);replace aa := aK (Kd.V_elder' (vM aa.out) (Kd.R_base ak) hb);replace aI := aK (Kd.R_below (rM aI.out) hb);have bV := aK (Kd.R_lower ak (below_size (bG HB.out)));replace ad := aK (blk_below (kM ad.out) hb);replace HB := aK (below_step (bG HB.out) hb);(try clear hb);(try clear hk);(try clear ak))))
         go_loopg [14] kj21 (fun kq d4 w' => ∃ (aB : Int),d4 = .int .i64 aB ∧ Aside0 (l26_HistoryChanges.l0 kq aL aH aB al ag ah an ao = some r) ∧ Aside0 (kq ≤ kj21) ∧ Aside0 (Kd.R k53 53 w' w.heap.size (fun _ => True) bU aL) ∧ Aside0 (Kd.R Kd.string 9 w' w.heap.size (fun _ => True) aJ aH) ∧ Aside0 (Kd.V (Kd.int .i64) 3 w' w.heap.size (fun k_ => some k_ ≠ (bU : Value).ownBlock ∧ some k_ ≠ (aJ : Value).ownBlock ∧ k_ ≠ ac) (.slice ax ag.length ap) ag) ∧ Aside0 (Kd.V k53 53 w' w.heap.size (fun k_ => some k_ ≠ (bU : Value).ownBlock ∧ some k_ ≠ (aJ : Value).ownBlock ∧ k_ ≠ ac) (.slice ar ah.length au) ah) ∧ Aside0 (w'.heap[ac]? = some (.cells #[.int .i64 al,(.slice ax ag.length ap),(.slice ar ah.length au),.int .i64 an,.int .i64 ao] 28 (0,0))) ∧ Aside0 (Below w.heap.size w w'))
         case atStart => exact ⟨(0),(by first|rfl|(simp;done)|(simp [*];done)),H',⟨Nat.le_refl _⟩,⟨rM aI.out⟩,⟨rM bV.out⟩,⟨by (with_reducible repeat (first|apply Kd.V_alloc|apply Kd.V_drewN|apply Kd.V_drew));exact Kd.V_mono ab.out (fun _ hk => ⟨hk.1.2,⟨hk.2,hk.1.1.2.2⟩⟩)⟩,⟨by (with_reducible repeat (first|apply Kd.V_alloc|apply Kd.V_drewN|apply Kd.V_drew));exact Kd.V_mono aa.out (fun _ hk => ⟨hk.1.2,⟨hk.2,hk.1.1.2.2⟩⟩)⟩,⟨kM ad.out⟩,⟨bG HB.out⟩⟩
         case round =>
          clear H'
          try clear p2
          try clear p7
          try clear q7
          try clear hx7
          try clear qi7
          try clear cx
          try clear ai
          try clear p2
          try clear p7
          try clear a8
          try clear q7
          try clear a9
          obtain ⟨aB,rfl,HA,bK,aM,aq,ab,aa,ad,HB⟩ := hrel
          cases gk with
         |zero => exact absurd HA.out (by simp [l26_HistoryChanges.l0])
         |succ k3 =>
           have H := HA.out
           clear HA
           simp only [l26_HistoryChanges.l0] at H
           by_cases ch : aB < (aL.length : Int)
           ·rw [if_pos ch] at H
            have bW := decide_eq_true ch
            clear ch
            have H' := aK H
            clear H
            obtain ⟨ci,cj,c1⟩ := Kd.R_slice aM.out
            subst c1
            go_wp2
            repeat (go_quiet (fail);try go_wp2)
            go_loopg [15,16] k3 (fun kq d5 d6 w' => ∃ (bi : Bool) (aC : Int),d5 = .bool bi ∧ d6 = .int .i64 aC ∧ Aside0 (l26_HistoryChanges.l1 kq aL aH aB bi aC al ag ah an ao = some r) ∧ Aside0 (kq ≤ k3) ∧ Aside0 (Kd.R k53 53 w' w.heap.size (fun _ => True) (.slice ci aL.length cj) aL) ∧ Aside0 (Kd.R Kd.string 9 w' w.heap.size (fun _ => True) aJ aH) ∧ Aside0 (Kd.V (Kd.int .i64) 3 w' w.heap.size (fun k_ => some k_ ≠ ((.slice ci aL.length cj) : Value).ownBlock ∧ some k_ ≠ (aJ : Value).ownBlock ∧ k_ ≠ ac) (.slice ax ag.length ap) ag) ∧ Aside0 (Kd.V k53 53 w' w.heap.size (fun k_ => some k_ ≠ ((.slice ci aL.length cj) : Value).ownBlock ∧ some k_ ≠ (aJ : Value).ownBlock ∧ k_ ≠ ac) (.slice ar ah.length au) ah) ∧ Aside0 (w'.heap[ac]? = some (.cells #[.int .i64 al,(.slice ax ag.length ap),(.slice ar ah.length au),.int .i64 an,.int .i64 ao] 28 (0,0))) ∧ Aside0 (Below w.heap.size w w'))
            case atStart => exact ⟨(false),(0),(by first|rfl|(simp;done)|(simp [*];done)),(by first|rfl|(simp;done)|(simp [*];done)),H',⟨Nat.le_refl _⟩,⟨rM aM.out⟩,⟨rM aq.out⟩,⟨vM ab.out⟩,⟨vM aa.out⟩,⟨kM ad.out⟩,⟨bG HB.out⟩⟩
            case round =>
             clear H'
             try clear p2
             try clear p7
             try clear q7
             try clear hx7
             try clear qi7
             try clear ch
             try clear bW
             try clear ai
             try clear p2
             try clear p7
             try clear a8
             try clear q7
             try clear a9
             obtain ⟨bi,aC,rfl,rfl,HA,bJ,aM,aq,ab,aa,ad,HB⟩ := hrel
             cases gk with
            |zero => exact absurd HA.out (by simp [l26_HistoryChanges.l1])
            |succ k4 =>
              have H := HA.out
              clear HA
              simp only [l26_HistoryChanges.l1] at H
              by_cases cq : aC < (ah.length : Int)
              ·rw [if_pos cq] at H
               have cA := decide_eq_true cq
               clear cq
               by_cases cH : bi = true
               ·subst cH
                rw [if_pos rfl] at H
                have H' := aK H
                clear H
                obtain ⟨_,_,_,_,_,_,_,_,_,_⟩ := bk5_ ad.out
                go_wp2
                repeat (go_quiet (fail);try go_wp2)
                go_roundg k4
                case measure => have := bk.out;have := aO.out;have := bK.out;have := bJ.out;omega
                case rel => exact ⟨(true),(wrap64 (aC + 1)),(by first|rfl|(simp;done)|(simp [*];done)),(by first|rfl|(simp;done)|(simp [*];done)),H',⟨by have := bk.out;have := aO.out;have := bK.out;have := bJ.out;omega⟩,⟨rM aM.out⟩,⟨rM aq.out⟩,⟨vM ab.out⟩,⟨vM aa.out⟩,⟨kM ad.out⟩,⟨bG HB.out⟩⟩
               ·replace cH := Bool.eq_false_iff.mpr cH
                subst cH
                rw [if_neg (show ¬ (false = true) by decide)] at H
                obtain ⟨dB,H⟩ := iS H
                have dC := decide_eq_true dB
                clear dB
                obtain ⟨dD,H⟩ := iS H
                have dE := decide_eq_true dD
                clear dD
                obtain ⟨dF,H⟩ := iS H
                have dG := decide_eq_true dF
                clear dF
                have H' := aK H
                clear H
                obtain ⟨_,_,_,_,_,_,_,_,_,_⟩ := bk5_ ad.out
                have bX : 0 ≤ (aC : Int) := dA
                have bY : aC < (ah.length : Int) := dA
                obtain ⟨dH,da,bn,bo⟩ := at_T53 (Kd.V_reads' aa.out).2.2 aC bX bY
                cases da
                replace bX := eq_true bX
                replace bY := eq_true bY
                have bZ : 0 ≤ (aB : Int) := dA
                have b1 : aB < (aL.length : Int) := dA
                obtain ⟨dI,db,bp,bq⟩ := at_T53 (Kd.R_reads' aM.out).2.2 aB bZ b1
                cases db
                replace bZ := eq_true bZ
                replace b1 := eq_true b1
                go_wp2
                repeat (go_quiet (fail);try go_wp2)
                go_roundg k4
                case measure => have := bk.out;have := aO.out;have := bK.out;have := bJ.out;omega
                case rel => exact ⟨((((rd_T53 ah aC).f0).toList == ((rd_T53 aL aB).f0).toList)),(wrap64 (aC + 1)),(by first|rfl|(simp;done)|(simp [*];done)),(by first|rfl|(simp;done)|(simp [*];done)),H',⟨by have := bk.out;have := aO.out;have := bK.out;have := bJ.out;omega⟩,⟨rM aM.out⟩,⟨rM aq.out⟩,⟨vM ab.out⟩,⟨vM aa.out⟩,⟨kM ad.out⟩,⟨bG HB.out⟩⟩
              ·rw [if_neg cq] at H
               have cA := decide_eq_false cq
               clear cq
               by_cases cI : bi = true
               ·subst cI
                rw [if_pos rfl] at H
                have H' := aK H
                clear H
                obtain ⟨_,_,_,_,_,_,_,_,_,_⟩ := bk5_ ad.out
                go_wp2
                repeat (go_quiet (fail);try go_wp2)
                go_roundg k4
                case measure => have := bk.out;have := aO.out;have := bK.out;have := bJ.out;omega
                case rel => exact ⟨(wrap64 (aB + 1)),(by first|rfl|(simp;done)|(simp [*];done)),H',⟨by have := bk.out;have := aO.out;have := bK.out;have := bJ.out;omega⟩,⟨rM aM.out⟩,⟨rM aq.out⟩,⟨vM ab.out⟩,⟨vM aa.out⟩,⟨kM ad.out⟩,⟨bG HB.out⟩⟩
               ·replace cI := Bool.eq_false_iff.mpr cI
                subst cI
                rw [if_neg (show ¬ (false = true) by decide)] at H
                obtain rfl := Option.some.inj H
                obtain ⟨_,_,_,_,_,_,_,_,_,_⟩ := bk5_ ad.out
                go_wp2
                repeat (go_quiet (fail);try go_wp2)
                go_ret
                exact ⟨by first|rfl|(simp [errW_none,errW_some] <;> rfl)|(simp [*,errW_none,errW_some] <;> rfl),bG HB.out⟩
           ·rw [if_neg ch] at H
            have bW := decide_eq_false ch
            clear ch
            have H' := aK H
            clear H
            obtain ⟨d7,d8,dc⟩ := Kd.R_slice aM.out
            subst dc
            go_wp2
            repeat (go_quiet (fail);try go_wp2)
            go_loopg [17] k3 (fun kq d9 w' => ∃ (aD : Int),d9 = .int .i64 aD ∧ Aside0 (l26_HistoryChanges.l2 kq aH aD al ag ah an ao = some r) ∧ Aside0 (kq ≤ k3) ∧ Aside0 (Kd.R Kd.string 9 w' w.heap.size (fun _ => True) aJ aH) ∧ Aside0 (Kd.V (Kd.int .i64) 3 w' w.heap.size (fun k_ => some k_ ≠ (aJ : Value).ownBlock ∧ k_ ≠ ac) (.slice ax ag.length ap) ag) ∧ Aside0 (Kd.V k53 53 w' w.heap.size (fun k_ => some k_ ≠ (aJ : Value).ownBlock ∧ k_ ≠ ac) (.slice ar ah.length au) ah) ∧ Aside0 (w'.heap[ac]? = some (.cells #[.int .i64 al,(.slice ax ag.length ap),(.slice ar ah.length au),.int .i64 an,.int .i64 ao] 28 (0,0))) ∧ Aside0 (Below w.heap.size w w'))
            case atStart => exact ⟨(0),(by first|rfl|(simp;done)|(simp [*];done)),H',⟨Nat.le_refl _⟩,⟨rM aq.out⟩,⟨by (with_reducible repeat (first|apply Kd.V_alloc|apply Kd.V_drewN|apply Kd.V_drew));exact Kd.V_mono ab.out (fun _ hk => ⟨hk.2.1,hk.2.2⟩)⟩,⟨by (with_reducible repeat (first|apply Kd.V_alloc|apply Kd.V_drewN|apply Kd.V_drew));exact Kd.V_mono aa.out (fun _ hk => ⟨hk.2.1,hk.2.2⟩)⟩,⟨kM ad.out⟩,⟨bG HB.out⟩⟩
            case round =>
             clear H'
             try clear p2
             try clear p6
             try clear p7
             try clear q7
             try clear hx7
             try clear qi7
             try clear bW
             try clear ai
             try clear bn
             try clear bo
             try clear bp
             try clear bq
             try clear p2
             try clear p7
             try clear a8
             try clear bX
             try clear bZ
             try clear q7
             try clear a9
             try clear bY
             try clear b1
             obtain ⟨aD,rfl,HA,bJ,aq,ab,aa,ad,HB⟩ := hrel
             cases gk with
            |zero => exact absurd HA.out (by simp [l26_HistoryChanges.l2])
            |succ k4 =>
              have H := HA.out
              clear HA
              simp only [l26_HistoryChanges.l2] at H
              by_cases ck : aD < (ah.length : Int)
              ·rw [if_pos ck] at H
               have ce := decide_eq_true ck
               clear ck
               have H' := aK H
               clear H
               obtain ⟨b4,b5,b6,b7,b8,b9,ca,cb,cc,cd⟩ := bk5_ ad.out
               go_wp2
               repeat (go_quiet (fail);try go_wp2)
               go_loopg [18,19] k4 (fun kq ea eb w' => ∃ (bj : Bool) (aE : Int),ea = .bool bj ∧ eb = .int .i64 aE ∧ Aside0 (l26_HistoryChanges.l3 kq aH aD bj aE al ag ah an ao = some r) ∧ Aside0 (kq ≤ k4) ∧ Aside0 (Kd.R Kd.string 9 w' w.heap.size (fun _ => True) aJ aH) ∧ Aside0 (Kd.V (Kd.int .i64) 3 w' w.heap.size (fun k_ => some k_ ≠ (aJ : Value).ownBlock ∧ k_ ≠ ac) (.slice ax ag.length ap) ag) ∧ Aside0 (Kd.V k53 53 w' w.heap.size (fun k_ => some k_ ≠ (aJ : Value).ownBlock ∧ k_ ≠ ac) (.slice ar ah.length au) ah) ∧ Aside0 (w'.heap[ac]? = some (.cells #[.int .i64 al,(.slice ax ag.length ap),(.slice ar ah.length au),.int .i64 an,.int .i64 ao] 28 (0,0))) ∧ Aside0 (Below w.heap.size w w'))
               case atStart => exact ⟨(false),(0),(by first|rfl|(simp;done)|(simp [*];done)),(by first|rfl|(simp;done)|(simp [*];done)),H',⟨Nat.le_refl _⟩,⟨rM aq.out⟩,⟨vM ab.out⟩,⟨vM aa.out⟩,⟨kM ad.out⟩,⟨bG HB.out⟩⟩
               case round =>
                clear H'
                try clear p2
                try clear p6
                try clear p7
                try clear q7
                try clear hx7
                try clear qi7
                try clear ck
                try clear ce
                try clear b4
                try clear b5
                try clear b6
                try clear b7
                try clear b8
                try clear b9
                try clear ca
                try clear cb
                try clear cc
                try clear cd
                try clear ai
                try clear bn
                try clear bo
                try clear bp
                try clear bq
                try clear p2
                try clear p6
                try clear p7
                try clear a8
                try clear bX
                try clear bZ
                try clear q7
                try clear a9
                try clear bY
                try clear b1
                obtain ⟨bj,aE,rfl,rfl,HA,cr,aq,ab,aa,ad,HB⟩ := hrel
                cases gk with
               |zero => exact absurd HA.out (by simp [l26_HistoryChanges.l3])
               |succ k5 =>
                 have H := HA.out
                 clear HA
                 simp only [l26_HistoryChanges.l3] at H
                 by_cases ct : aE < (aH.length : Int)
                 ·rw [if_pos ct] at H
                  have cB := decide_eq_true ct
                  clear ct
                  by_cases cJ : bj = true
                  ·subst cJ
                   rw [if_pos rfl] at H
                   have H' := aK H
                   clear H
                   obtain ⟨ec,ed,dd⟩ := Kd.R_slice aq.out
                   subst dd
                   go_wp2
                   repeat (go_quiet (fail);try go_wp2)
                   go_roundg k5
                   case measure => have := bk.out;have := aO.out;have := bK.out;have := bJ.out;have := cr.out;omega
                   case rel => exact ⟨(true),(wrap64 (aE + 1)),(by first|rfl|(simp;done)|(simp [*];done)),(by first|rfl|(simp;done)|(simp [*];done)),H',⟨by have := bk.out;have := aO.out;have := bK.out;have := bJ.out;have := cr.out;omega⟩,⟨rM aq.out⟩,⟨vM ab.out⟩,⟨vM aa.out⟩,⟨kM ad.out⟩,⟨bG HB.out⟩⟩
                  ·replace cJ := Bool.eq_false_iff.mpr cJ
                   subst cJ
                   rw [if_neg (show ¬ (false = true) by decide)] at H
                   obtain ⟨dJ,H⟩ := iS H
                   have dK := decide_eq_true dJ
                   clear dJ
                   obtain ⟨dL,H⟩ := iS H
                   have dM := decide_eq_true dL
                   clear dL
                   obtain ⟨dN,H⟩ := iS H
                   have dO := decide_eq_true dN
                   clear dN
                   have H' := aK H
                   clear H
                   obtain ⟨ee,ef,de⟩ := Kd.R_slice aq.out
                   subst de
                   have cl : 0 ≤ (aE : Int) := dA
                   have cm : aE < (aH.length : Int) := dA
                   obtain ⟨dP,df,cK⟩ := Kd.at_string (Kd.R_reads' aq.out).2.2 aE cl cm
                   cases df
                   replace cl := eq_true cl
                   replace cm := eq_true cm
                   obtain ⟨_,_,_,_,_,_,_,_,_,_⟩ := bk5_ ad.out
                   have cn : 0 ≤ (aD : Int) := dA
                   have co : aD < (ah.length : Int) := dA
                   obtain ⟨dQ,dg,cL,cN⟩ := at_T53 (Kd.V_reads' aa.out).2.2 aD cn co
                   cases dg
                   replace cn := eq_true cn
                   replace co := eq_true co
                   go_wp2
                   repeat (go_quiet (fail);try go_wp2)
                   go_roundg k5
                   case measure => have := bk.out;have := aO.out;have := bK.out;have := bJ.out;have := cr.out;omega
                   case rel => exact ⟨(((rdOf ByteArray.empty aH aE).toList == ((rd_T53 ah aD).f0).toList)),(wrap64 (aE + 1)),(by first|rfl|(simp;done)|(simp [*];done)),(by first|rfl|(simp;done)|(simp [*];done)),H',⟨by have := bk.out;have := aO.out;have := bK.out;have := bJ.out;have := cr.out;omega⟩,⟨rM aq.out⟩,⟨vM ab.out⟩,⟨vM aa.out⟩,⟨kM ad.out⟩,⟨bG HB.out⟩⟩
                 ·rw [if_neg ct] at H
                  have cB := decide_eq_false ct
                  clear ct
                  by_cases cO : bj = true
                  ·subst cO
                   rw [if_pos rfl] at H
                   have H' := aK H
                   clear H
                   obtain ⟨eg,eh,dh⟩ := Kd.R_slice aq.out
                   subst dh
                   go_wp2
                   repeat (go_quiet (fail);try go_wp2)
                   go_roundg k5
                   case measure => have := bk.out;have := aO.out;have := bK.out;have := bJ.out;have := cr.out;omega
                   case rel => exact ⟨(wrap64 (aD + 1)),(by first|rfl|(simp;done)|(simp [*];done)),H',⟨by have := bk.out;have := aO.out;have := bK.out;have := bJ.out;have := cr.out;omega⟩,⟨rM aq.out⟩,⟨vM ab.out⟩,⟨vM aa.out⟩,⟨kM ad.out⟩,⟨bG HB.out⟩⟩
                  ·replace cO := Bool.eq_false_iff.mpr cO
                   subst cO
                   rw [if_neg (show ¬ (false = true) by decide)] at H
                   obtain rfl := Option.some.inj H
                   obtain ⟨ei,ej,di⟩ := Kd.R_slice aq.out
                   subst di
                   go_wp2
                   repeat (go_quiet (fail);try go_wp2)
                   go_ret
                   exact ⟨by first|rfl|(simp [errW_none,errW_some] <;> rfl)|(simp [*,errW_none,errW_some] <;> rfl),bG HB.out⟩
              ·rw [if_neg ck] at H
               have ce := decide_eq_false ck
               clear ck
               obtain rfl := Option.some.inj H
               obtain ⟨_,_,_,_,_,_,_,_,_,_⟩ := bk5_ ad.out
               go_wp2
               repeat (go_quiet (fail);try go_wp2)
               go_ret
               exact ⟨by first|rfl|(simp [errW_none,errW_some] <;> rfl)|(simp [*,errW_none,errW_some] <;> rfl),bG HB.out⟩
   ·replace c8 := Bool.eq_false_iff.mpr c8
    subst c8
    rw [if_neg (show ¬ (false = true) by decide)] at H
    obtain rfl := Option.some.inj H
    go_enter Tryz.func9,Tryz.ntmps9
    go_wp2_with (first|(go_at_call 10;(with_reducible refine (l26_alive.calls k  true _ A3.out).mono ?_);rintro e dR ⟨rfl,hb⟩;replace HB := aK (below_step (bM HB.out) hb);(try clear hb);(try clear hk))|(go_at_call 17;(with_reducible refine (l26_right.calls k _ _ l0 true _ ?ae ?af A5.out).mono ?_);(case ae => exact cM (Kd.C_below aP.out HB.out));(case af => exact aQ.out);rintro e dS ⟨rfl,hb⟩;replace HB := aK (below_step (bM HB.out) hb);(try clear hb);(try clear hk))|(go_at_call 12;(with_reducible refine (history_Get.calls k (fun k_ => k_ < w.heap.size) _ _ l0 a1 al ag ah an ao false _ ?ae A7.out).mono ?_);(case ae => exact Kd.V_mk aQ.out (Kd.F_below (Kd.C_F k28_heap aP.out) (bM HB.out)));rintro e dT ⟨bL,bN,rfl,ak,bb,hb⟩;have aj := aK (Kd.V_lower (Kd.V_mono (ok' := fun k_ => True) ak (fun k_ hk_ => trivial)) (below_size (bM HB.out)));have am := aK (Kd.V_lower (Kd.V_mono (ok' := fun k_ => True) bb (fun k_ hk_ => trivial)) (below_size (bM HB.out)));replace HB := aK (below_step (bM HB.out) hb);(try clear hb);(try clear hk);(try clear ak);(try clear bb))|((with_reducible refine gate_dst (N := 5) rfl ?_);refine box_event ?hg (N := 5) ?hd (cs := #[.int .i64 0,.slice none 0 0,.slice none 0 0,.int .i64 0,.int .i64 0]) (t := 28) ?hr ?_;(case hd => rfl);(case hg => rfl);(case hr => first|(go_simp;done)|(go_simp;rfl));intro ac hg dU hbox hb;replace aj := aK (Kd.V_below (Kd.V_elderB (vM aj.out) ac (Nat.le_of_eq hg.symm)) hb);replace am := aK (Kd.V_below (Kd.V_elderB (vM am.out) ac (Nat.le_of_eq hg.symm)) hb);have ad := aK (hbox);have az := aK ((by rw [hg];exact (below_size (bM HB.out)) : w.heap.size ≤ ac));have bc := Ge.mk az.out;have aA := aK ((by rw [hg];exact (below_size (bM HB.out)) : w.heap.size ≤ ac));have bd := Ge.mk aA.out;replace HB := aK (below_step (bM HB.out) hb);clear hb hbox hg;obtain ⟨br,bs,bu,bv,bx,bz,bB,bC,bD,bE⟩ := bk5_ ad.out;obtain ⟨cC,cD,b2⟩ := Kd.V_slice aj.out;subst b2;obtain ⟨cE,cF,b3⟩ := Kd.V_slice am.out;subst b3))
    repeat (go_quiet (first|(go_at_call 10;(with_reducible refine (l26_alive.calls k  true _ A3.out).mono ?_);rintro e dR ⟨rfl,hb⟩;replace HB := aK (below_step (bM HB.out) hb);(try clear hb);(try clear hk))|(go_at_call 17;(with_reducible refine (l26_right.calls k _ _ l0 true _ ?ae ?af A5.out).mono ?_);(case ae => exact cM (Kd.C_below aP.out HB.out));(case af => exact aQ.out);rintro e dS ⟨rfl,hb⟩;replace HB := aK (below_step (bM HB.out) hb);(try clear hb);(try clear hk))|(go_at_call 12;(with_reducible refine (history_Get.calls k (fun k_ => k_ < w.heap.size) _ _ l0 a1 al ag ah an ao false _ ?ae A7.out).mono ?_);(case ae => exact Kd.V_mk aQ.out (Kd.F_below (Kd.C_F k28_heap aP.out) (bM HB.out)));rintro e dT ⟨bL,bN,rfl,ak,bb,hb⟩;have aj := aK (Kd.V_lower (Kd.V_mono (ok' := fun k_ => True) ak (fun k_ hk_ => trivial)) (below_size (bM HB.out)));have am := aK (Kd.V_lower (Kd.V_mono (ok' := fun k_ => True) bb (fun k_ hk_ => trivial)) (below_size (bM HB.out)));replace HB := aK (below_step (bM HB.out) hb);(try clear hb);(try clear hk);(try clear ak);(try clear bb))|((with_reducible refine gate_dst (N := 5) rfl ?_);refine box_event ?hg (N := 5) ?hd (cs := #[.int .i64 0,.slice none 0 0,.slice none 0 0,.int .i64 0,.int .i64 0]) (t := 28) ?hr ?_;(case hd => rfl);(case hg => rfl);(case hr => first|(go_simp;done)|(go_simp;rfl));intro ac hg dU hbox hb;replace aj := aK (Kd.V_below (Kd.V_elderB (vM aj.out) ac (Nat.le_of_eq hg.symm)) hb);replace am := aK (Kd.V_below (Kd.V_elderB (vM am.out) ac (Nat.le_of_eq hg.symm)) hb);have ad := aK (hbox);have az := aK ((by rw [hg];exact (below_size (bM HB.out)) : w.heap.size ≤ ac));have bc := Ge.mk az.out;have aA := aK ((by rw [hg];exact (below_size (bM HB.out)) : w.heap.size ≤ ac));have bd := Ge.mk aA.out;replace HB := aK (below_step (bM HB.out) hb);clear hb hbox hg;obtain ⟨br,bs,bu,bv,bx,bz,bB,bC,bD,bE⟩ := bk5_ ad.out;obtain ⟨cC,cD,b2⟩ := Kd.V_slice aj.out;subst b2;obtain ⟨cE,cF,b3⟩ := Kd.V_slice am.out;subst b3));try go_wp2_with (first|(go_at_call 10;(with_reducible refine (l26_alive.calls k  true _ A3.out).mono ?_);rintro e dR ⟨rfl,hb⟩;replace HB := aK (below_step (bM HB.out) hb);(try clear hb);(try clear hk))|(go_at_call 17;(with_reducible refine (l26_right.calls k _ _ l0 true _ ?ae ?af A5.out).mono ?_);(case ae => exact cM (Kd.C_below aP.out HB.out));(case af => exact aQ.out);rintro e dS ⟨rfl,hb⟩;replace HB := aK (below_step (bM HB.out) hb);(try clear hb);(try clear hk))|(go_at_call 12;(with_reducible refine (history_Get.calls k (fun k_ => k_ < w.heap.size) _ _ l0 a1 al ag ah an ao false _ ?ae A7.out).mono ?_);(case ae => exact Kd.V_mk aQ.out (Kd.F_below (Kd.C_F k28_heap aP.out) (bM HB.out)));rintro e dT ⟨bL,bN,rfl,ak,bb,hb⟩;have aj := aK (Kd.V_lower (Kd.V_mono (ok' := fun k_ => True) ak (fun k_ hk_ => trivial)) (below_size (bM HB.out)));have am := aK (Kd.V_lower (Kd.V_mono (ok' := fun k_ => True) bb (fun k_ hk_ => trivial)) (below_size (bM HB.out)));replace HB := aK (below_step (bM HB.out) hb);(try clear hb);(try clear hk);(try clear ak);(try clear bb))|((with_reducible refine gate_dst (N := 5) rfl ?_);refine box_event ?hg (N := 5) ?hd (cs := #[.int .i64 0,.slice none 0 0,.slice none 0 0,.int .i64 0,.int .i64 0]) (t := 28) ?hr ?_;(case hd => rfl);(case hg => rfl);(case hr => first|(go_simp;done)|(go_simp;rfl));intro ac hg dU hbox hb;replace aj := aK (Kd.V_below (Kd.V_elderB (vM aj.out) ac (Nat.le_of_eq hg.symm)) hb);replace am := aK (Kd.V_below (Kd.V_elderB (vM am.out) ac (Nat.le_of_eq hg.symm)) hb);have ad := aK (hbox);have az := aK ((by rw [hg];exact (below_size (bM HB.out)) : w.heap.size ≤ ac));have bc := Ge.mk az.out;have aA := aK ((by rw [hg];exact (below_size (bM HB.out)) : w.heap.size ≤ ac));have bd := Ge.mk aA.out;replace HB := aK (below_step (bM HB.out) hb);clear hb hbox hg;obtain ⟨br,bs,bu,bv,bx,bz,bB,bC,bD,bE⟩ := bk5_ ad.out;obtain ⟨cC,cD,b2⟩ := Kd.V_slice aj.out;subst b2;obtain ⟨cE,cF,b3⟩ := Kd.V_slice am.out;subst b3)))
    go_ret
    exact ⟨by first|rfl|(simp [errW_none,errW_some] <;> rfl)|(simp [*,errW_none,errW_some] <;> rfl),bG HB.out⟩
  ·replace c6 := Bool.eq_false_iff.mpr c6
   subst c6
   rw [if_neg (show ¬ (false = true) by decide)] at H
   obtain rfl := Option.some.inj H
   go_enter Tryz.func9,Tryz.ntmps9
   go_wp2_with (first|(go_at_call 10;(with_reducible refine (l26_alive.calls k  true _ A3.out).mono ?_);rintro e dV ⟨rfl,hb⟩;replace HB := aK (below_step (bM HB.out) hb);(try clear hb);(try clear hk))|(go_at_call 17;(with_reducible refine (l26_right.calls k _ _ l0 false _ ?ae ?af A5.out).mono ?_);(case ae => exact cM (Kd.C_below aP.out HB.out));(case af => exact aQ.out);rintro e dW ⟨rfl,hb⟩;replace HB := aK (below_step (bM HB.out) hb);(try clear hb);(try clear hk)))
   repeat (go_quiet (first|(go_at_call 10;(with_reducible refine (l26_alive.calls k  true _ A3.out).mono ?_);rintro e dV ⟨rfl,hb⟩;replace HB := aK (below_step (bM HB.out) hb);(try clear hb);(try clear hk))|(go_at_call 17;(with_reducible refine (l26_right.calls k _ _ l0 false _ ?ae ?af A5.out).mono ?_);(case ae => exact cM (Kd.C_below aP.out HB.out));(case af => exact aQ.out);rintro e dW ⟨rfl,hb⟩;replace HB := aK (below_step (bM HB.out) hb);(try clear hb);(try clear hk)));try go_wp2_with (first|(go_at_call 10;(with_reducible refine (l26_alive.calls k  true _ A3.out).mono ?_);rintro e dV ⟨rfl,hb⟩;replace HB := aK (below_step (bM HB.out) hb);(try clear hb);(try clear hk))|(go_at_call 17;(with_reducible refine (l26_right.calls k _ _ l0 false _ ?ae ?af A5.out).mono ?_);(case ae => exact cM (Kd.C_below aP.out HB.out));(case af => exact aQ.out);rintro e dW ⟨rfl,hb⟩;replace HB := aK (below_step (bM HB.out) hb);(try clear hb);(try clear hk))))
   go_ret
   exact ⟨by first|rfl|(simp [errW_none,errW_some] <;> rfl)|(simp [*,errW_none,errW_some] <;> rfl),bM HB.out⟩
 ·replace c4 := Bool.eq_false_iff.mpr c4
  subst c4
  rw [if_neg (show ¬ (false = true) by decide)] at H
  obtain rfl := Option.some.inj H
  go_enter Tryz.func9,Tryz.ntmps9
  go_wp2_with (first|(go_at_call 10;(with_reducible refine (l26_alive.calls k  false _ A3.out).mono ?_);rintro e dX ⟨rfl,hb⟩;replace HB := aK (below_step (bM HB.out) hb);(try clear hb);(try clear hk)))
  repeat (go_quiet (first|(go_at_call 10;(with_reducible refine (l26_alive.calls k  false _ A3.out).mono ?_);rintro e dX ⟨rfl,hb⟩;replace HB := aK (below_step (bM HB.out) hb);(try clear hb);(try clear hk)));try go_wp2_with (first|(go_at_call 10;(with_reducible refine (l26_alive.calls k  false _ A3.out).mono ?_);rintro e dX ⟨rfl,hb⟩;replace HB := aK (below_step (bM HB.out) hb);(try clear hb);(try clear hk))))
  go_ret
  exact ⟨by first|rfl|(simp [errW_none,errW_some] <;> rfl)|(simp [*,errW_none,errW_some] <;> rfl),bM HB.out⟩
end Go.Proofs.YtgadbpljlpclnaaGreatDoor.H
