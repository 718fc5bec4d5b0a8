import Derived.Test.YtgadbpljlpclnaaGreatDoorHx0
import Derived.Test.YtgadbpljlpclnaaGreatDoorHx8
import Derived.Test.YtgadbpljlpclnaaGreatDoorHx14
import Derived.Test.YtgadbpljlpclnaaGreatDoorHx15
import Derived.Test.YtgadbpljlpclnaaGreatDoorHx16
import Derived.Test.YtgadbpljlpclnaaGreatDoorHx18
namespace Go.Proofs.YtgadbpljlpclnaaGreatDoor.H
open Go.RowKit Go.Proofs.YtgadbpljlpclnaaGreatDoorW.PrintWords Go.Proofs.YtgadbpljlpclnaaGreatDoorW.PrintLast Go.Proofs.YtgadbpljlpclnaaGreatDoorW.PrintMore
set_option maxHeartbeats 4000000
set_option maxRecDepth 100000
attribute [local go_sem] max2_int min2_int max_two min_two max_three min_three max_four min_four
set_option linter.unusedVariables false
set_option linter.unusedSimpArgs false

/-! ### l26_right: function 17 -/
def l26_right.f (k : Nat) (l0 : List (S28)) : Option (Bool) := if (l0.length : Int) ≤ 12 then ((l26_few.f k l0).bind fun aa => (if aa = true then ((r26_Right.f k l0).bind fun ab => (some (ab == 0))) else (some false))) else (some false)
theorem l26_right.mono : ∀ a0 k, LeO (l26_right.f k a0) (l26_right.f (k + 1) a0) := by
 intro a0 k
 unfold l26_right.f
 repeat' (with_reducible first|exact l26_few.mono _ _|exact r26_Right.mono _ _|exact LeO.refl _|exact LeO.none _|refine LeO.ite ?_ ?_|refine LeO.bind ?_ (fun _ => ?_))
theorem l26_right.calls (k : Nat) (A0 : Option Addr) (c0 : Nat) (l0 : List (S28)) (r : Bool) (w : World) (ai : Kd.C k28 w A0 l0.length l0) (aj : l0.length ≤ c0) (h : l26_right.f k l0 = some r) :
  Calls Tryz.prog 17 #[.slice A0 l0.length c0] w fun e w' => e = .returned (.bool r) ∧ Below w.heap.size w w' := by
 have ac := aK ai
 have ad := aK aj
 clear ai aj
 have HB := aK (Below.refl w.heap.size w)
 unfold l26_right.f at h
 have H := h
 clear h
 by_cases c2 : (l0.length : Int) ≤ 12
 ·rw [if_pos c2] at H
  have ae := decide_eq_true c2
  have af : decide (l0.length ≤ 12) = true := decide_eq_true (by omega)
  clear c2
  replace H := Option.bind_eq_some_iff.mp H
  obtain ⟨ag,ak,H⟩ := H
  have A3 := aK ak
  clear ak
  by_cases c4 : ag = true
  ·subst c4
   rw [if_pos rfl] at H
   replace H := Option.bind_eq_some_iff.mp H
   obtain ⟨ah,al,H⟩ := H
   have A5 := aK al
   clear al
   obtain rfl := Option.some.inj H
   go_enter Tryz.func17,Tryz.ntmps17
   go_wp2_with (first|(go_at_call 11;(with_reducible refine (l26_few.calls k _ _ l0 true _ ?aa ?ab A3.out).mono ?_);(case aa => exact cM ac.out);(case ab => exact ad.out);rintro e w' ⟨rfl,⟨nd,rfl⟩⟩)|(go_at_call 15;(with_reducible refine (r26_Right.calls k _ _ l0 ah _ ?aa ?ab A5.out).mono ?_);(case aa => exact cM ac.out);(case ab => exact ad.out);rintro e w6 ⟨rfl,hb⟩;replace HB := aK (below_step (bM HB.out) hb);(try clear hb)))
   go_ret
   exact ⟨by first|rfl|(simp [errW_none,errW_some] <;> rfl)|(simp [*,errW_none,errW_some] <;> rfl),bM HB.out⟩
  ·replace c4 := Bool.eq_false_iff.mpr c4
   subst c4
   rw [if_neg (show ¬ (false = true) by decide)] at H
   obtain rfl := Option.some.inj H
   go_enter Tryz.func17,Tryz.ntmps17
   go_wp2_with (first|(go_at_call 11;(with_reducible refine (l26_few.calls k _ _ l0 false _ ?aa ?ab A3.out).mono ?_);(case aa => exact cM ac.out);(case ab => exact ad.out);rintro e w' ⟨rfl,⟨nd,rfl⟩⟩))
   go_ret
   exact ⟨by first|rfl|(simp [errW_none,errW_some] <;> rfl)|(simp [*,errW_none,errW_some] <;> rfl),bM HB.out⟩
 ·rw [if_neg c2] at H
  have ae := decide_eq_false c2
  have af : decide (l0.length ≤ 12) = false := decide_eq_false (by omega)
  clear c2
  obtain rfl := Option.some.inj H
  go_enter Tryz.func17,Tryz.ntmps17
  go_wp2
  go_ret
  exact ⟨by first|rfl|(simp [errW_none,errW_some] <;> rfl)|(simp [*,errW_none,errW_some] <;> rfl),bM HB.out⟩

/-! ### l26_HistoryFiles: function 4 -/
def l26_HistoryFiles.f (k : Nat) (l0 : List (S28)) (a1 : Int) : Option (Bool) := (l26_alive.f k).bind fun ac => (if ac = true then ((l26_right.f k l0).bind fun ad => (if ad = true then ((history_Tree.f k l0 a1).bind fun aa => ((r26_Tree.f k l0 a1).bind fun ab => (if aa.2 = ab.2 then ((r25_Files.f k aa.1 ab.1).bind fun ae => (some ae)) else (some false)))) else (some true))) else (some false))
theorem l26_HistoryFiles.mono : ∀ a0 a1 k, LeO (l26_HistoryFiles.f k a0 a1) (l26_HistoryFiles.f (k + 1) a0 a1) := by
 intro a0 a1 k
 unfold l26_HistoryFiles.f
 repeat' (with_reducible first|exact l26_alive.mono _|exact l26_right.mono _ _|exact r25_Files.mono _ _ _|exact r26_Tree.mono _ _ _|exact history_Tree.mono _ _ _|exact LeO.refl _|exact LeO.none _|refine LeO.ite ?_ ?_|refine LeO.bind ?_ (fun _ => ?_))
theorem l26_HistoryFiles.calls (k : Nat) (A0 : Option Addr) (c0 : Nat) (l0 : List (S28)) (a1 : Int) (r : Bool) (w : World) (aA : Kd.C k28 w A0 l0.length l0) (aB : l0.length ≤ c0) (h : l26_HistoryFiles.f k l0 a1 = some r) :
  Calls Tryz.prog 4 #[.slice A0 l0.length c0,.int .i64 a1] w fun e w' => e = .returned (.bool r) ∧ Below w.heap.size w w' := by
 have al := aK aA
 have am := aK aB
 clear aA aB
 have HB := aK (Below.refl w.heap.size w)
 unfold l26_HistoryFiles.f at h
 have H := h
 clear h
 replace H := Option.bind_eq_some_iff.mp H
 obtain ⟨ar,aC,H⟩ := H
 have A3 := aK aC
 clear aC
 by_cases c4 : ar = true
 ·subst c4
  rw [if_pos rfl] at H
  replace H := Option.bind_eq_some_iff.mp H
  obtain ⟨au,aD,H⟩ := H
  have A5 := aK aD
  clear aD
  by_cases c6 : au = true
  ·subst c6
   rw [if_pos rfl] at H
   replace H := Option.bind_eq_some_iff.mp H
   obtain ⟨⟨ad,ae⟩,aE,H⟩ := H
   replace H : ((r26_Tree.f k l0 a1).bind fun ak => (if ae = ak.2 then ((r25_Files.f k ad ak.1).bind fun af => (some af)) else (some false))) = some r := H
   have A7 := aK aE
   clear aE
   replace H := Option.bind_eq_some_iff.mp H
   obtain ⟨⟨ah,ai⟩,aF,H⟩ := H
   replace H : (if ae = ai then ((r25_Files.f k ad ah).bind fun af => (some af)) else (some false)) = some r := H
   have A8 := aK aF
   clear aF
   by_cases c9 : ae = ai
   ·rw [if_pos c9] at H
    have av := beq_iff_eq.mpr c9
    have aw := bne_eq_false_iff_eq.mpr c9
    clear c9
    replace H := Option.bind_eq_some_iff.mp H
    obtain ⟨af,an,H⟩ := H
    have aG := aK an
    clear an
    obtain rfl := Option.some.inj H
    go_enter Tryz.func4,Tryz.ntmps4
    go_wp2_with (first|((with_reducible refine gate_callee (f := 10) rfl ?_);refine gL 9 Tryz.func10 #[] ?_;(with_reducible refine (l26_alive.calls k  true _ A3.out).mono ?_);rintro e aM ⟨rfl,hb⟩;refine ⟨_,rfl,?_⟩;replace HB := aK (below_step (bM HB.out) hb);(try clear hb))|((with_reducible refine gate_callee (f := 17) rfl ?_);refine gL 12 Tryz.func17 #[.slice A0 l0.length c0] ?_;(with_reducible refine (l26_right.calls k _ _ l0 true _ ?aa ?ab A5.out).mono ?_);(case aa => exact cM (Kd.C_below al.out HB.out));(case ab => exact am.out);rintro e aN ⟨rfl,hb⟩;refine ⟨_,rfl,?_⟩;replace HB := aK (below_step (bM HB.out) hb);(try clear hb))|((with_reducible refine gate_callee (f := 18) rfl ?_);refine gL 17 Tryz.func18 #[.slice A0 l0.length c0,.int .i64 a1] ?_;(with_reducible refine (history_Tree.calls k _ _ l0 a1 ad ae _ ?aa ?ab A7.out).mono ?_);(case aa => exact cM (Kd.C_below al.out HB.out));(case ab => exact am.out);rintro e aO ⟨ao,rfl,aj,hb⟩;refine ⟨_,rfl,?_⟩;have ac := aK (Kd.R_lower aj (below_size (bM HB.out)));replace HB := aK (below_step (bM HB.out) hb);(try clear hb);(try clear aj))|((with_reducible refine gate_callee (f := 19) rfl ?_);refine gL 23 Tryz.func19 #[.slice A0 l0.length c0,.int .i64 a1] ?_;(with_reducible refine (r26_Tree.calls k (fun k_ => k_ < w.heap.size) _ _ l0 a1 ah ai _ ?aa A8.out).mono ?_);(case aa => exact Kd.V_mk am.out (Kd.F_below (Kd.C_F k28_heap al.out) (bM HB.out)));rintro e aP ⟨ax,rfl,aj,hb⟩;refine ⟨_,rfl,?_⟩;have ag := aK (Kd.V_lower (Kd.V_mono (ok' := fun k_ => some k_ ≠ (ao : Value).ownBlock) aj (fun k_ hk_ => Or.elim hk_ (fun hs_ => fun e_ => Nat.not_le.2 hs_ (Kd.R_base ac.out k_ e_.symm)) (fun hn_ => (Kd.fresh' (Kd.R_lt (rM ac.out)) k_ hn_)))) (below_size (bM HB.out)));replace ac := aK (Kd.R_below (rM ac.out) hb);replace HB := aK (below_step (bM HB.out) hb);(try clear hb);(try clear aj);obtain ⟨aH,aI,ay⟩ := Kd.R_slice ac.out;subst ay;obtain ⟨aJ,aL,az⟩ := Kd.V_slice ag.out;subst az)|(go_at_call 20;(with_reducible refine (r25_Files.calls k _ _ ad _ _ ah af _ ?aa ?ab ?ap ?aq aG.out).mono ?_);(case aa => exact cM (Kd.R_reads' ac.out).2.2);(case ab => exact (Kd.R_reads' ac.out).2.1);(case ap => exact cM (Kd.V_reads' ag.out).2.2);(case aq => exact (Kd.V_reads' ag.out).2.1);rintro e w' ⟨rfl,⟨nd,rfl⟩⟩))
    go_ret
    exact ⟨by first|rfl|(simp [errW_none,errW_some] <;> rfl)|(simp [*,errW_none,errW_some] <;> rfl),bM HB.out⟩
   ·rw [if_neg c9] at H
    have av := beq_eq_false_iff_ne.mpr c9
    have aw := bne_iff_ne.mpr c9
    obtain rfl := Option.some.inj H
    go_enter Tryz.func4,Tryz.ntmps4
    go_wp2_with (first|((with_reducible refine gate_callee (f := 10) rfl ?_);refine gL 9 Tryz.func10 #[] ?_;(with_reducible refine (l26_alive.calls k  true _ A3.out).mono ?_);rintro e aQ ⟨rfl,hb⟩;refine ⟨_,rfl,?_⟩;replace HB := aK (below_step (bM HB.out) hb);(try clear hb))|((with_reducible refine gate_callee (f := 17) rfl ?_);refine gL 12 Tryz.func17 #[.slice A0 l0.length c0] ?_;(with_reducible refine (l26_right.calls k _ _ l0 true _ ?aa ?ab A5.out).mono ?_);(case aa => exact cM (Kd.C_below al.out HB.out));(case ab => exact am.out);rintro e aR ⟨rfl,hb⟩;refine ⟨_,rfl,?_⟩;replace HB := aK (below_step (bM HB.out) hb);(try clear hb))|((with_reducible refine gate_callee (f := 18) rfl ?_);refine gL 17 Tryz.func18 #[.slice A0 l0.length c0,.int .i64 a1] ?_;(with_reducible refine (history_Tree.calls k _ _ l0 a1 ad ae _ ?aa ?ab A7.out).mono ?_);(case aa => exact cM (Kd.C_below al.out HB.out));(case ab => exact am.out);rintro e aS ⟨ao,rfl,aj,hb⟩;refine ⟨_,rfl,?_⟩;replace HB := aK (below_step (bM HB.out) hb);(try clear hb);(try clear aj))|((with_reducible refine gate_callee (f := 19) rfl ?_);refine gL 23 Tryz.func19 #[.slice A0 l0.length c0,.int .i64 a1] ?_;(with_reducible refine (r26_Tree.calls k (fun k_ => k_ < w.heap.size) _ _ l0 a1 ah ai _ ?aa A8.out).mono ?_);(case aa => exact Kd.V_mk am.out (Kd.F_below (Kd.C_F k28_heap al.out) (bM HB.out)));rintro e aT ⟨ax,rfl,aj,hb⟩;refine ⟨_,rfl,?_⟩;replace HB := aK (below_step (bM HB.out) hb);(try clear hb);(try clear aj)))
    go_ret
    exact ⟨by first|rfl|(simp [errW_none,errW_some] <;> rfl)|(simp [*,errW_none,errW_some] <;> rfl),bM HB.out⟩
  ·replace c6 := Bool.eq_false_iff.mpr c6
   subst c6
   rw [if_neg (show ¬ (false = true) by decide)] at H
   obtain rfl := Option.some.inj H
   go_enter Tryz.func4,Tryz.ntmps4
   go_wp2_with (first|((with_reducible refine gate_callee (f := 10) rfl ?_);refine gL 9 Tryz.func10 #[] ?_;(with_reducible refine (l26_alive.calls k  true _ A3.out).mono ?_);rintro e aU ⟨rfl,hb⟩;refine ⟨_,rfl,?_⟩;replace HB := aK (below_step (bM HB.out) hb);(try clear hb))|((with_reducible refine gate_callee (f := 17) rfl ?_);refine gL 12 Tryz.func17 #[.slice A0 l0.length c0] ?_;(with_reducible refine (l26_right.calls k _ _ l0 false _ ?aa ?ab A5.out).mono ?_);(case aa => exact cM (Kd.C_below al.out HB.out));(case ab => exact am.out);rintro e aV ⟨rfl,hb⟩;refine ⟨_,rfl,?_⟩;replace HB := aK (below_step (bM HB.out) hb);(try clear hb)))
   go_ret
   exact ⟨by first|rfl|(simp [errW_none,errW_some] <;> rfl)|(simp [*,errW_none,errW_some] <;> rfl),bM HB.out⟩
 ·replace c4 := Bool.eq_false_iff.mpr c4
  subst c4
  rw [if_neg (show ¬ (false = true) by decide)] at H
  obtain rfl := Option.some.inj H
  go_enter Tryz.func4,Tryz.ntmps4
  go_wp2_with (first|((with_reducible refine gate_callee (f := 10) rfl ?_);refine gL 9 Tryz.func10 #[] ?_;(with_reducible refine (l26_alive.calls k  false _ A3.out).mono ?_);rintro e aW ⟨rfl,hb⟩;refine ⟨_,rfl,?_⟩;replace HB := aK (below_step (bM HB.out) hb);(try clear hb)))
  go_ret
  exact ⟨by first|rfl|(simp [errW_none,errW_some] <;> rfl)|(simp [*,errW_none,errW_some] <;> rfl),bM HB.out⟩

/-! ### r05_In: function 33 -/
def r05_In.l0 : Nat → List Int → Int → Int → Option (Bool)
|0,_,_,_ => none
|k + 1,x0,x1,x5 => if x5 < (x0.length : Int) then (if 0 ≤ x5 then (if (rd x0 x5) = x1 then (some true) else (r05_In.l0 k x0 x1 (wrap64 (x5 + 1)))) else (none)) else (some false)
def r05_In.f (k : Nat) (l0 : List Int) (a1 : Int) : Option (Bool) := r05_In.l0 k l0 a1 0
theorem r05_In.mono_l : ∀ k, (∀ y0 y1 y2, LeO (r05_In.l0 k y0 y1 y2) (r05_In.l0 (k + 1) y0 y1 y2))
|0 => fun _ _ _ r h => by simp [r05_In.l0] at h
|k + 1 => by
  have ih0 := r05_In.mono_l k
  ·intro y0 y1 y2
   unfold r05_In.l0
   repeat' (with_reducible first|exact ih0 _ _ _|exact LeO.refl _|exact LeO.none _|refine LeO.ite ?_ ?_|refine LeO.bind ?_ (fun _ => ?_))
theorem r05_In.mono : ∀ a0 a1 k, LeO (r05_In.f k a0 a1) (r05_In.f (k + 1) a0 a1) := by
 intro a0 a1 k
 have ih0 := r05_In.mono_l k
 unfold r05_In.f
 repeat' (with_reducible first|exact ih0 _ _ _|exact LeO.refl _|exact LeO.none _|refine LeO.ite ?_ ?_|refine LeO.bind ?_ (fun _ => ?_))
theorem r05_In.calls (k : Nat) (A0 : Option Addr) (c0 : Nat) (l0 : List Int) (a1 : Int) (r : Bool) (w : World) (aj : Kd.C (Kd.int .i64) w A0 l0.length l0) (ak : l0.length ≤ c0) (h : r05_In.f k l0 a1 = some r) :
  Calls Tryz.prog 33 #[.slice A0 l0.length c0,.int .i64 a1] w fun e w' => e = .returned (.bool r) ∧ Drawn0 w w' := by
 have al := aK aj
 have ao := aK ak
 clear aj ak
 have H : (r05_In.l0 k l0 a1 0) = some r := h
 clear h
 have H' := aK H
 clear H
 go_enter Tryz.func33,Tryz.ntmps33
 go_wp2
 go_loopg [5] k (fun kq v5 w' => ∃ (aa : Int),v5 = .int .i64 aa ∧ Aside0 (r05_In.l0 kq l0 a1 aa = some r) ∧ Aside0 (kq ≤ k) ∧ Drawn0 w w')
 case atStart => exact ⟨(0),(by first|rfl|(simp;done)|(simp [*];done)),H',⟨Nat.le_refl _⟩,by repeat (first|exact Drawn0.refl _|apply Drawn0.step)⟩
 case round =>
  clear H'
  try clear p2
  obtain ⟨aa,rfl,HA,am,⟨m1,rfl⟩⟩ := hrel
  cases gk with
 |zero => exact absurd HA.out (by simp [r05_In.l0])
 |succ k1 =>
   have H := HA.out
   clear HA
   simp only [r05_In.l0] at H
   by_cases c3 : aa < (l0.length : Int)
   ·rw [if_pos c3] at H
    have ag := decide_eq_true c3
    clear c3
    obtain ⟨c4,H⟩ := iS H
    have an := decide_eq_true c4
    clear c4
    by_cases c5 : (rd l0 aa) = a1
    ·rw [if_pos c5] at H
     have ah := beq_iff_eq.mpr c5
     have ai := bne_eq_false_iff_eq.mpr c5
     clear c5
     obtain rfl := Option.some.inj H
     have ab : 0 ≤ (aa : Int) := dA
     have ac : aa < (l0.length : Int) := dA
     obtain ⟨af,ae,ad⟩ := Kd.at_int al.out aa ab ac
     cases ae
     replace ab := eq_true ab
     replace ac := eq_true ac
     go_wp2
     go_ret
     exact ⟨by first|rfl|(simp;done)|(simp [*];done),by repeat (first|exact Drawn0.refl _|apply Drawn0.step)⟩
    ·rw [if_neg c5] at H
     have ah := beq_eq_false_iff_ne.mpr c5
     have ai := bne_iff_ne.mpr c5
     have H' := aK H
     clear H
     have ab : 0 ≤ (aa : Int) := dA
     have ac : aa < (l0.length : Int) := dA
     obtain ⟨af,ae,ad⟩ := Kd.at_int al.out aa ab ac
     cases ae
     replace ab := eq_true ab
     replace ac := eq_true ac
     go_wp2
     go_roundg k1
     case measure => have := am.out;omega
     case rel => exact ⟨(wrap64 (aa + 1)),(by first|rfl|(simp;done)|(simp [*];done)),H',⟨by have := am.out;omega⟩,by repeat (first|exact Drawn0.refl _|apply Drawn0.step)⟩
   ·rw [if_neg c3] at H
    have ag := decide_eq_false c3
    clear c3
    obtain rfl := Option.some.inj H
    go_wp2
    go_ret
    exact ⟨by first|rfl|(simp;done)|(simp [*];done),by repeat (first|exact Drawn0.refl _|apply Drawn0.step)⟩

/-! ### r05_Put: function 42 -/
mutual
def r05_Put.l0 : Nat → List Int → Int → List Int → Bool → Int → Option (List Int)
|0,_,_,_,_,_ => none
|k + 1,x0,x1,x5,x6,x7 => if x7 < (x0.length : Int) then (if x6 = true then (r05_Put.j1 k x0 x1 x5 x6 x7 false) else (if 0 ≤ x7 then (r05_Put.j1 k x0 x1 x5 x6 x7 (decide ((rd x0 x7) ≥ x1))) else (none))) else (if x6 = true then (some x5) else (if x5.length < 17592186044416 then (some (x5 ++ [x1])) else (none)))
def r05_Put.j1 : Nat → List Int → Int → List Int → Bool → Int → Bool → Option (List Int)
|0,_,_,_,_,_,_ => none
|k + 1,x0,x1,x5,x6,x7,ab => if ab = true then (if 0 ≤ x7 then (if x7 < (x0.length : Int) then (if (rd x0 x7) > x1 then (if x5.length < 17592186044416 then ((some (x5 ++ [x1] : List Int)).bind fun aa => (if aa.length < 17592186044416 then (r05_Put.l0 k x0 x1 (aa ++ [rd x0 x7]) true (wrap64 (x7 + 1))) else (none))) else (none)) else (if x5.length < 17592186044416 then (r05_Put.l0 k x0 x1 (x5 ++ [rd x0 x7]) true (wrap64 (x7 + 1))) else (none))) else (none)) else (none)) else (if 0 ≤ x7 then (if x7 < (x0.length : Int) then (if x5.length < 17592186044416 then (r05_Put.l0 k x0 x1 (x5 ++ [rd x0 x7]) x6 (wrap64 (x7 + 1))) else (none)) else (none)) else (none))
end
def r05_Put.f (k : Nat) (l0 : List Int) (a1 : Int) : Option (List Int) := r05_Put.l0 k l0 a1 (([] : List Int)) false 0
theorem r05_Put.mono_l : ∀ k, (∀ y0 y1 y2 y3 y4, LeO (r05_Put.l0 k y0 y1 y2 y3 y4) (r05_Put.l0 (k + 1) y0 y1 y2 y3 y4)) ∧ (∀ y0 y1 y2 y3 y4 y5, LeO (r05_Put.j1 k y0 y1 y2 y3 y4 y5) (r05_Put.j1 (k + 1) y0 y1 y2 y3 y4 y5))
|0 => ⟨fun _ _ _ _ _ r h => by simp [r05_Put.l0] at h,fun _ _ _ _ _ _ r h => by simp [r05_Put.j1] at h⟩
|k + 1 => by
  obtain ⟨ih0,ih1⟩ := r05_Put.mono_l k
  refine ⟨?_,?_⟩
  ·intro y0 y1 y2 y3 y4
   unfold r05_Put.l0
   repeat' (with_reducible first|exact ih1 _ _ _ _ _ _|exact LeO.refl _|exact LeO.none _|refine LeO.ite ?_ ?_|refine LeO.bind ?_ (fun _ => ?_))
  ·intro y0 y1 y2 y3 y4 y5
   unfold r05_Put.j1
   repeat' (with_reducible first|exact ih0 _ _ _ _ _|exact LeO.refl _|exact LeO.none _|refine LeO.ite ?_ ?_|refine LeO.bind ?_ (fun _ => ?_))
theorem r05_Put.mono : ∀ a0 a1 k, LeO (r05_Put.f k a0 a1) (r05_Put.f (k + 1) a0 a1) := by
 intro a0 a1 k
 obtain ⟨ih0,ih1⟩ := r05_Put.mono_l k
 unfold r05_Put.f
 repeat' (with_reducible first|exact ih0 _ _ _ _ _|exact ih1 _ _ _ _ _ _|exact LeO.refl _|exact LeO.none _|refine LeO.ite ?_ ?_|refine LeO.bind ?_ (fun _ => ?_))
theorem r05_Put.calls (k : Nat) (A0 : Option Addr) (c0 : Nat) (l0 : List Int) (a1 : Int) (r : List Int) (w : World) (bu : Kd.C (Kd.int .i64) w A0 l0.length l0) (bv : l0.length ≤ c0) (h : r05_Put.f k l0 a1 = some r) :
  Calls Tryz.prog 42 #[.slice A0 l0.length c0,.int .i64 a1] w fun e w' => ∃ bx : Value,e = .returned (bx) ∧ Kd.R (Kd.int .i64) 3 w' w.heap.size (fun _ => True) bx r ∧ Below w.heap.size w w' := by
 have aM := aK bu
 have bV := aK bv
 clear bu bv
 have HB := aK (Below.refl w.heap.size w)
 have H : (r05_Put.l0 k l0 a1 (([] : List Int)) false 0) = some r := h
 clear h
 obtain ⟨aR,af⟩ : ∃ y_ : List Int,y_ = (([] : List Int)) := ⟨_,rfl⟩
 replace H : (r05_Put.l0 k l0 a1 aR false 0) = some r := by first|(rw [af];with_reducible exact H)|(have ad := (Option.bind_some _ _).symm.trans H;rw [af];with_reducible exact ad)|(have ad := (Option.bind_some _ _).symm.trans H;with_reducible exact ad)|with_reducible exact H|(rw [af];exact H)|exact H
 have az := aK af
 clear af
 have H' := aK H
 clear H
 go_enter Tryz.func42,Tryz.ntmps42
 go_wp2_with (first|((with_reducible refine gate_dst (N := 8) rfl ?_);refine Kd.R_lit (Kd.int .i64) _ 3 ?hg (N := 8) ?hd (xs := ([] : List Int)) (inner := []) (ok := fun _ => True) (okp := fun _ => True) ?hr ?hp (fun _ hk => hk) trivial (Below.refl _ _) (Nat.le_refl _) (by simp) ?_;(case hd => rfl);(case hg => rfl);(case hr => first|(go_simp;done)|(go_simp;rfl));(case hp => exact (Reps.none _ _));intro bP w3 aT hb hg_ hnew_;clear hg_ hnew_;(first|rw [← az.out] at aT|(simp only [Int.reduceToNat] at aT;rw [← az.out] at aT));have aU := aK (Kd.R_lower aT (below_size (bM HB.out)));replace HB := aK (below_step (bM HB.out) hb);clear hb aT))
 go_loopg [5,6,7] k (fun kq v5 v6 v7 w' => ∃ (ab : List Int) (ag : Bool) (aa : Int),v6 = .bool ag ∧ v7 = .int .i64 aa ∧ Aside0 (r05_Put.l0 kq l0 a1 ab ag aa = some r) ∧ Aside0 (kq ≤ k) ∧ Aside0 (Kd.R (Kd.int .i64) 3 w' w.heap.size (fun _ => True) v5 ab) ∧ Aside0 (Below w.heap.size w w'))
 case atStart => exact ⟨(aR),(false),(0),(by first|rfl|(simp;done)|(simp [*];done)),(by first|rfl|(simp;done)|(simp [*];done)),H',⟨Nat.le_refl _⟩,⟨rM aU.out⟩,⟨bM HB.out⟩⟩
 case round =>
  clear H'
  try clear p2
  obtain ⟨ab,ag,aa,rfl,rfl,HA,aA,ah,HB⟩ := hrel
  cases gk with
 |zero => exact absurd HA.out (by simp [r05_Put.l0])
 |succ k1 =>
   have H := HA.out
   clear HA
   simp only [r05_Put.l0] at H
   by_cases c5 : aa < (l0.length : Int)
   ·rw [if_pos c5] at H
    have aV := decide_eq_true c5
    clear c5
    have bm := aK H
    clear H
    go_upto_region 6 with (fail)
    go_cut [24] (fun bQ wc => ∃ (kq : Nat) (ap : Bool),bQ = .bool ap ∧ Aside0 (r05_Put.j1 kq l0 a1 ab ag aa ap = some r) ∧ Aside0 (kq ≤ k1) ∧ Aside0 (Kd.R (Kd.int .i64) 3 wc w.heap.size (fun _ => True) u5 ab) ∧ Aside0 (Below w.heap.size w wc))
    case first =>
     have H := bm.out
     clear bm
     by_cases c7 : ag = true
     ·subst c7
      rw [if_pos rfl] at H
      have H' := aK H
      clear H
      go_wp2
      go_meet
      case rel => exact ⟨_,(false),(by first|rfl|(simp;done)|(simp [*];done)),H',⟨by have := aA.out;first|omega|exact Nat.le_refl _⟩,⟨rM ah.out⟩,⟨bM HB.out⟩⟩
     ·replace c7 := Bool.eq_false_iff.mpr c7
      subst c7
      rw [if_neg (show ¬ (false = true) by decide)] at H
      obtain ⟨c8,H⟩ := iS H
      have aW := decide_eq_true c8
      clear c8
      (first|rw [aW]|(simp only [i64_w,i32_w];rw [aW])|rw [c8b1]|skip)
      have H' := aK H
      clear H
      have aw : 0 ≤ (aa : Int) := dA
      have ax : aa < (l0.length : Int) := dA
      obtain ⟨bz,bn,ae⟩ := Kd.at_int aM.out aa aw ax
      cases bn
      replace ae := xM HB ae
      replace aw := eq_true aw
      replace ax := eq_true ax
      go_wp2
      go_meet
      case rel => exact ⟨_,(decide ((rd l0 aa) ≥ a1)),(by first|rfl|(simp;done)|(simp [*];done)),H',⟨by have := aA.out;first|omega|exact Nat.le_refl _⟩,⟨rM ah.out⟩,⟨bM HB.out⟩⟩
    case rest =>
     clear bm
     try clear p2
     try clear p4
     try clear q4
     try clear hx4
     try clear c5
     try clear aV
     try clear ae
     try clear p2
     try clear aw
     try clear ax
     obtain ⟨kq,ap,rfl,HA,aN,ah,HB⟩ := hcut
     cases kq with
    |zero => exact absurd HA.out (by simp [r05_Put.j1])
    |succ kj5 =>
      have H := HA.out
      clear HA
      simp only [r05_Put.j1] at H
      by_cases c9 : ap = true
      ·subst c9
       rw [if_pos rfl] at H
       obtain ⟨c10,H⟩ := iS H
       have bB := decide_eq_true c10
       clear c10
       obtain ⟨bC,H⟩ := iS H
       have bD := decide_eq_true bC
       clear bC
       by_cases aQ : (rd l0 aa) > a1
       ·rw [if_pos aQ] at H
        have aX := decide_eq_true aQ
        clear aQ
        obtain ⟨bE,H⟩ := iS H
        have aY := aK bE
        clear bE
        obtain ⟨ay,ai⟩ : ∃ y_ : List Int,y_ = (ab ++ [a1]) := ⟨_,rfl⟩
        replace H : (if ay.length < 17592186044416 then (r05_Put.l0 kj5 l0 a1 (ay ++ [rd l0 aa]) true (wrap64 (aa + 1))) else (none)) = some r := by first|(rw [ai];with_reducible exact H)|(have ad := (Option.bind_some _ _).symm.trans H;rw [ai];with_reducible exact ad)|(have ad := (Option.bind_some _ _).symm.trans H;with_reducible exact ad)|with_reducible exact H|(rw [ai];exact H)|exact H
        have aZ := aK ai
        clear ai
        obtain ⟨bF,H⟩ := iS H
        have a0 := aK bF
        clear bF
        obtain ⟨a2,aj⟩ : ∃ y_ : List Int,y_ = (ay ++ [rd l0 aa]) := ⟨_,rfl⟩
        replace H : (r05_Put.l0 kj5 l0 a1 a2 true (wrap64 (aa + 1))) = some r := by first|(rw [aj];with_reducible exact H)|(have ad := (Option.bind_some _ _).symm.trans H;rw [aj];with_reducible exact ad)|(have ad := (Option.bind_some _ _).symm.trans H;with_reducible exact ad)|with_reducible exact H|(rw [aj];exact H)|exact H
        have a3 := aK aj
        clear aj
        have H' := aK H
        clear H
        have an : 0 ≤ (aa : Int) := dA
        have ao : aa < (l0.length : Int) := dA
        obtain ⟨av,aC,ac⟩ := Kd.at_int aM.out aa an ao
        cases aC
        replace ac := xM HB ac
        replace an := eq_true an
        replace ao := eq_true ao
        go_wp2_with (first|((with_reducible refine gate_builtin (b := .append) (xs := #[.tmp 31,.tmp 33]) rfl ?_);at_builtin;refine Kd.R_append (Kd.int .i64) (w0 := w) w.heap.size rfl (.tmp 31) (.tmp 33) 25 3 (.int .i64 0) 8 rfl Tryz.underlying25 info3 rfl (by decide) (by omega) u5 ab a1 [.int .i64 a1] (fun _ => True) (fun _ => False) rfl rfl ?aP (fun _ hk => hk.elim) ?aF ?aO ?aB ?aS ?aL ?_;(case aP => exact rfl);(case aB => exact (bM HB.out));(case aF => exact (fun _ _ => trivial));(case aO => exact (rM ah.out));(case aS => exact (below_size (bM HB.out)));(case aL => have := aY.out;omega);intro bo bW ho hb hg hat;rw [← aZ.out] at ho;replace HB := aK (hb);have a4 := aK (ho);clear ho hb hg hat;have aD : 0 ≤ (aa : Int) := dA;have aE : aa < (l0.length : Int) := dA;obtain ⟨a5,bp,aq⟩ := Kd.at_int aM.out aa aD aE;obtain rfl : av = a5 := (by injection bp);replace aq := xM HB aq;replace aD := eq_true aD;replace aE := eq_true aE)|((with_reducible refine gate_builtin (b := .append) (xs := #[.tmp 35,.tmp 40]) rfl ?_);at_builtin;refine Kd.R_append (Kd.int .i64) (w0 := w) w.heap.size rfl (.tmp 35) (.tmp 40) 25 3 (.int .i64 0) 8 rfl Tryz.underlying25 info3 rfl (by decide) (by omega) bo ay (rd l0 aa) [.int .i64 (rd l0 aa)] (fun _ => True) (fun _ => False) rfl rfl ?aP (fun _ hk => hk.elim) ?aF ?aO ?aB ?aS ?aL ?_;(case aP => exact rfl);(case aB => exact (bM HB.out));(case aF => exact (fun _ _ => trivial));(case aO => exact (rM a4.out));(case aS => exact (below_size (bM HB.out)));(case aL => have := a0.out;omega);intro bR bX ho hb hg hat;rw [← a3.out] at ho;replace HB := aK (hb);have a6 := aK (ho);clear ho hb hg hat))
        go_roundg kj5
        case measure => have := aA.out;have := aN.out;omega
        case rel => exact ⟨(a2),(true),(wrap64 (aa + 1)),(by first|rfl|(simp;done)|(simp [*];done)),(by first|rfl|(simp;done)|(simp [*];done)),H',⟨by have := aA.out;have := aN.out;omega⟩,⟨rM a6.out⟩,⟨bM HB.out⟩⟩
       ·rw [if_neg aQ] at H
        have aX := decide_eq_false aQ
        clear aQ
        obtain ⟨bH,H⟩ := iS H
        have a7 := aK bH
        clear bH
        obtain ⟨a8,ak⟩ : ∃ y_ : List Int,y_ = (ab ++ [rd l0 aa]) := ⟨_,rfl⟩
        replace H : (r05_Put.l0 kj5 l0 a1 a8 true (wrap64 (aa + 1))) = some r := by first|(rw [ak];with_reducible exact H)|(have ad := (Option.bind_some _ _).symm.trans H;rw [ak];with_reducible exact ad)|(have ad := (Option.bind_some _ _).symm.trans H;with_reducible exact ad)|with_reducible exact H|(rw [ak];exact H)|exact H
        have a9 := aK ak
        clear ak
        have H' := aK H
        clear H
        have an : 0 ≤ (aa : Int) := dA
        have ao : aa < (l0.length : Int) := dA
        obtain ⟨av,aC,ac⟩ := Kd.at_int aM.out aa an ao
        cases aC
        replace ac := xM HB ac
        replace an := eq_true an
        replace ao := eq_true ao
        have aG : 0 ≤ (aa : Int) := dA
        have aH : aa < (l0.length : Int) := dA
        obtain ⟨ba,bq,ar⟩ := Kd.at_int aM.out aa aG aH
        obtain rfl : av = ba := (by injection bq)
        replace ar := xM HB ar
        replace aG := eq_true aG
        replace aH := eq_true aH
        go_wp2_with (first|((with_reducible refine gate_builtin (b := .append) (xs := #[.tmp 35,.tmp 40]) rfl ?_);at_builtin;refine Kd.R_append (Kd.int .i64) (w0 := w) w.heap.size rfl (.tmp 35) (.tmp 40) 25 3 (.int .i64 0) 8 rfl Tryz.underlying25 info3 rfl (by decide) (by omega) u5 ab (rd l0 aa) [.int .i64 (rd l0 aa)] (fun _ => True) (fun _ => False) rfl rfl ?aP (fun _ hk => hk.elim) ?aF ?aO ?aB ?aS ?aL ?_;(case aP => exact rfl);(case aB => exact (bM HB.out));(case aF => exact (fun _ _ => trivial));(case aO => exact (rM ah.out));(case aS => exact (below_size (bM HB.out)));(case aL => have := a7.out;omega);intro bS bY ho hb hg hat;rw [← a9.out] at ho;replace HB := aK (hb);have bb := aK (ho);clear ho hb hg hat))
        go_roundg kj5
        case measure => have := aA.out;have := aN.out;omega
        case rel => exact ⟨(a8),(true),(wrap64 (aa + 1)),(by first|rfl|(simp;done)|(simp [*];done)),(by first|rfl|(simp;done)|(simp [*];done)),H',⟨by have := aA.out;have := aN.out;omega⟩,⟨rM bb.out⟩,⟨bM HB.out⟩⟩
      ·replace c9 := Bool.eq_false_iff.mpr c9
       subst c9
       rw [if_neg (show ¬ (false = true) by decide)] at H
       obtain ⟨bI,H⟩ := iS H
       have bJ := decide_eq_true bI
       clear bI
       obtain ⟨bK,H⟩ := iS H
       have bL := decide_eq_true bK
       clear bK
       obtain ⟨bN,H⟩ := iS H
       have bc := aK bN
       clear bN
       obtain ⟨bd,al⟩ : ∃ y_ : List Int,y_ = (ab ++ [rd l0 aa]) := ⟨_,rfl⟩
       replace H : (r05_Put.l0 kj5 l0 a1 bd ag (wrap64 (aa + 1))) = some r := by first|(rw [al];with_reducible exact H)|(have ad := (Option.bind_some _ _).symm.trans H;rw [al];with_reducible exact ad)|(have ad := (Option.bind_some _ _).symm.trans H;with_reducible exact ad)|with_reducible exact H|(rw [al];exact H)|exact H
       have be := aK al
       clear al
       have H' := aK H
       clear H
       have aI : 0 ≤ (aa : Int) := dA
       have aJ : aa < (l0.length : Int) := dA
       obtain ⟨bO,br,au⟩ := Kd.at_int aM.out aa aI aJ
       cases br
       replace au := xM HB au
       replace aI := eq_true aI
       replace aJ := eq_true aJ
       go_wp2_with (first|((with_reducible refine gate_builtin (b := .append) (xs := #[.tmp 35,.tmp 40]) rfl ?_);at_builtin;refine Kd.R_append (Kd.int .i64) (w0 := w) w.heap.size rfl (.tmp 35) (.tmp 40) 25 3 (.int .i64 0) 8 rfl Tryz.underlying25 info3 rfl (by decide) (by omega) u5 ab (rd l0 aa) [.int .i64 (rd l0 aa)] (fun _ => True) (fun _ => False) rfl rfl ?aP (fun _ hk => hk.elim) ?aF ?aO ?aB ?aS ?aL ?_;(case aP => exact rfl);(case aB => exact (bM HB.out));(case aF => exact (fun _ _ => trivial));(case aO => exact (rM ah.out));(case aS => exact (below_size (bM HB.out)));(case aL => have := bc.out;omega);intro bT bZ ho hb hg hat;rw [← be.out] at ho;replace HB := aK (hb);have bf := aK (ho);clear ho hb hg hat))
       go_roundg kj5
       case measure => have := aA.out;have := aN.out;omega
       case rel => exact ⟨(bd),(ag),(wrap64 (aa + 1)),(by first|rfl|(simp;done)|(simp [*];done)),(by first|rfl|(simp;done)|(simp [*];done)),H',⟨by have := aA.out;have := aN.out;omega⟩,⟨rM bf.out⟩,⟨bM HB.out⟩⟩
   ·rw [if_neg c5] at H
    have aV := decide_eq_false c5
    clear c5
    by_cases bj : ag = true
    ·subst bj
     rw [if_pos rfl] at H
     obtain rfl := Option.some.inj H
     go_wp2
     go_ret
     exact ⟨_,by first|rfl|(simp [errW_none,errW_some] <;> rfl)|(simp [*,errW_none,errW_some] <;> rfl),rM ah.out,bM HB.out⟩
    ·replace bj := Bool.eq_false_iff.mpr bj
     subst bj
     rw [if_neg (show ¬ (false = true) by decide)] at H
     by_cases bk : ab.length < 17592186044416
     ·rw [if_pos bk] at H
      have bg := aK bk
      clear bk
      obtain ⟨bs,am⟩ : ∃ y_ : List Int,y_ = (ab ++ [a1]) := ⟨_,rfl⟩
      replace H : (some bs) = some r := by first|(rw [am];with_reducible exact H)|(have ad := (Option.bind_some _ _).symm.trans H;rw [am];with_reducible exact ad)|(have ad := (Option.bind_some _ _).symm.trans H;with_reducible exact ad)|with_reducible exact H|(rw [am];exact H)|exact H
      have bh := aK am
      clear am
      obtain rfl := Option.some.inj H
      go_wp2_with (first|((with_reducible refine gate_builtin (b := .append) (xs := #[.tmp 44,.tmp 46]) rfl ?_);at_builtin;refine Kd.R_append (Kd.int .i64) (w0 := w) w.heap.size rfl (.tmp 44) (.tmp 46) 25 3 (.int .i64 0) 8 rfl Tryz.underlying25 info3 rfl (by decide) (by omega) u5 ab a1 [.int .i64 a1] (fun _ => True) (fun _ => False) rfl rfl ?aP (fun _ hk => hk.elim) ?aF ?aO ?aB ?aS ?aL ?_;(case aP => exact rfl);(case aB => exact (bM HB.out));(case aF => exact (fun _ _ => trivial));(case aO => exact (rM ah.out));(case aS => exact (below_size (bM HB.out)));(case aL => have := bg.out;omega);intro bU b1 ho hb hg hat;rw [← bh.out] at ho;replace HB := aK (hb);have bi := aK (ho);clear ho hb hg hat))
      go_ret
      exact ⟨_,by first|rfl|(simp [errW_none,errW_some] <;> rfl)|(simp [*,errW_none,errW_some] <;> rfl),rM bi.out,bM HB.out⟩
     ·rw [if_neg bk] at H
      exact absurd H (by simp)
end Go.Proofs.YtgadbpljlpclnaaGreatDoor.H
