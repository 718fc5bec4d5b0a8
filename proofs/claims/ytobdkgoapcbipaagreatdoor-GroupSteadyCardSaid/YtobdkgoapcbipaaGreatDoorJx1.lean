import Derived.Test.YtobdkgoapcbipaaGreatDoorJx0
namespace Go.Proofs.YtobdkgoapcbipaaGreatDoor.J
open Go.RowKit Go.Proofs.YtobdkgoapcbipaaGreatDoorW.PrintWords Go.Proofs.YtobdkgoapcbipaaGreatDoorW.PrintLast Go.Proofs.YtobdkgoapcbipaaGreatDoorW.PrintMore
set_option maxHeartbeats 4000000
set_option maxRecDepth 100000
attribute [local go_sem] max2_int min2_int max_two min_two max_three min_three max_four min_four
set_option linter.unusedVariables false
set_option linter.unusedSimpArgs false

/-! ### r43_at: function 36 -/
def r43_at.l0 : Nat → List (S36) → ByteArray → Int → Option (Int)
|0,_,_,_ => none
|k + 1,x0,x1,x5 => if x5 < (x0.length : Int) then (if 0 ≤ x5 then (if ((rd_T36 x0 x5).f0).toList = x1.toList then (some x5) else (r43_at.l0 k x0 x1 (wrap64 (x5 + 1)))) else (none)) else (some (-1))
def r43_at.f (k : Nat) (l0 : List (S36)) (a1 : ByteArray) : Option (Int) := r43_at.l0 k l0 a1 0
theorem r43_at.mono_l : ∀ k, (∀ y0 y1 y2, LeO (r43_at.l0 k y0 y1 y2) (r43_at.l0 (k + 1) y0 y1 y2))
|0 => fun _ _ _ r h => by simp [r43_at.l0] at h
|k + 1 => by
  have ih0 := r43_at.mono_l k
  ·intro y0 y1 y2
   unfold r43_at.l0
   repeat' (with_reducible first|exact ih0 _ _ _|exact LeO.refl _|exact LeO.none _|refine LeO.ite ?_ ?_|refine LeO.bind ?_ (fun _ => ?_))
theorem r43_at.mono : ∀ a0 a1 k, LeO (r43_at.f k a0 a1) (r43_at.f (k + 1) a0 a1) := by
 intro a0 a1 k
 have ih0 := r43_at.mono_l k
 unfold r43_at.f
 repeat' (with_reducible first|exact ih0 _ _ _|exact LeO.refl _|exact LeO.none _|refine LeO.ite ?_ ?_|refine LeO.bind ?_ (fun _ => ?_))
theorem r43_at.calls (k : Nat) (A0 : Option Addr) (c0 : Nat) (l0 : List (S36)) (a1 : ByteArray) (r : Int) (w : World) (az : Kd.C k36 w A0 l0.length l0) (aA : l0.length ≤ c0) (h : r43_at.f k l0 a1 = some r) :
  Calls Tryz.prog 36 #[.slice A0 l0.length c0,.string a1] w fun e w' => e = .returned (.int .i64 r) ∧ Drawn0 w w' := by
 have aB := aK az
 have aE := aK aA
 clear az aA
 have H : (r43_at.l0 k l0 a1 0) = some r := h
 clear h
 have H' := aK H
 clear H
 go_enter Tryz.func36,Tryz.ntmps36
 go_wp2
 go_loopg [5] k (fun kq v5 w' => ∃ (ae : Int),v5 = .int .i64 ae ∧ Aside0 (r43_at.l0 kq l0 a1 ae = some r) ∧ Aside0 (kq ≤ k) ∧ Drawn0 w w')
 case atStart => exact ⟨(0),(by first|rfl|(simp;done)|(simp [*];done)),H',⟨Nat.le_refl _⟩,by repeat (first|exact Drawn0.refl _|apply Drawn0.step)⟩
 case round =>
  clear H'
  try clear p2
  obtain ⟨ae,rfl,HA,aC,⟨m1,rfl⟩⟩ := hrel
  cases gk with
 |zero => exact absurd HA.out (by simp [r43_at.l0])
 |succ k1 =>
   have H := HA.out
   clear HA
   simp only [r43_at.l0] at H
   by_cases c3 : ae < (l0.length : Int)
   ·rw [if_pos c3] at H
    have aw := decide_eq_true c3
    clear c3
    obtain ⟨c4,H⟩ := iS H
    have aD := decide_eq_true c4
    clear c4
    by_cases c5 : ((rd_T36 l0 ae).f0).toList = a1.toList
    ·rw [if_pos c5] at H
     have ax := beq_iff_eq.mpr c5
     have ay := bne_eq_false_iff_eq.mpr c5
     clear c5
     obtain rfl := Option.some.inj H
     have af : 0 ≤ (ae : Int) := dA
     have ag : ae < (l0.length : Int) := dA
     obtain ⟨av,ao,ap,aq,ar,au,ah,ai,aj,aa,ab,ac,ad⟩ := at_T36 aB.out ae af ag
     cases au
     have ak := aK ab
     have al := aK aa
     clear ab aa
     have am := aK ad
     have an := aK ac
     clear ad ac
     replace af := eq_true af
     replace ag := eq_true ag
     go_wp2
     go_ret
     exact ⟨by first|rfl|(simp;done)|(simp [*];done),by repeat (first|exact Drawn0.refl _|apply Drawn0.step)⟩
    ·rw [if_neg c5] at H
     have ax := beq_eq_false_iff_ne.mpr c5
     have ay := bne_iff_ne.mpr c5
     have H' := aK H
     clear H
     have af : 0 ≤ (ae : Int) := dA
     have ag : ae < (l0.length : Int) := dA
     obtain ⟨av,ao,ap,aq,ar,au,ah,ai,aj,aa,ab,ac,ad⟩ := at_T36 aB.out ae af ag
     cases au
     have ak := aK ab
     have al := aK aa
     clear ab aa
     have am := aK ad
     have an := aK ac
     clear ad ac
     replace af := eq_true af
     replace ag := eq_true ag
     go_wp2
     go_roundg k1
     case measure => have := aC.out;omega
     case rel => exact ⟨(wrap64 (ae + 1)),(by first|rfl|(simp;done)|(simp [*];done)),H',⟨by have := aC.out;omega⟩,by repeat (first|exact Drawn0.refl _|apply Drawn0.step)⟩
   ·rw [if_neg c3] at H
    have aw := decide_eq_false c3
    clear c3
    obtain rfl := Option.some.inj H
    go_wp2
    go_ret
    exact ⟨by first|rfl|(simp;done)|(simp [*];done),by repeat (first|exact Drawn0.refl _|apply Drawn0.step)⟩

/-! ### r43_inText: function 38 -/
def r43_inText.l0 : Nat → List ByteArray → ByteArray → Int → Option (Bool)
|0,_,_,_ => none
|k + 1,x0,x1,x5 => if x5 < (x0.length : Int) then (if 0 ≤ x5 then (if (rdOf ByteArray.empty x0 x5).toList = x1.toList then (some true) else (r43_inText.l0 k x0 x1 (wrap64 (x5 + 1)))) else (none)) else (some false)
def r43_inText.f (k : Nat) (l0 : List ByteArray) (a1 : ByteArray) : Option (Bool) := r43_inText.l0 k l0 a1 0
theorem r43_inText.mono_l : ∀ k, (∀ y0 y1 y2, LeO (r43_inText.l0 k y0 y1 y2) (r43_inText.l0 (k + 1) y0 y1 y2))
|0 => fun _ _ _ r h => by simp [r43_inText.l0] at h
|k + 1 => by
  have ih0 := r43_inText.mono_l k
  ·intro y0 y1 y2
   unfold r43_inText.l0
   repeat' (with_reducible first|exact ih0 _ _ _|exact LeO.refl _|exact LeO.none _|refine LeO.ite ?_ ?_|refine LeO.bind ?_ (fun _ => ?_))
theorem r43_inText.mono : ∀ a0 a1 k, LeO (r43_inText.f k a0 a1) (r43_inText.f (k + 1) a0 a1) := by
 intro a0 a1 k
 have ih0 := r43_inText.mono_l k
 unfold r43_inText.f
 repeat' (with_reducible first|exact ih0 _ _ _|exact LeO.refl _|exact LeO.none _|refine LeO.ite ?_ ?_|refine LeO.bind ?_ (fun _ => ?_))
theorem r43_inText.calls (k : Nat) (A0 : Option Addr) (c0 : Nat) (l0 : List ByteArray) (a1 : ByteArray) (r : Bool) (w : World) (aj : Kd.C Kd.string w A0 l0.length l0) (ak : l0.length ≤ c0) (h : r43_inText.f k l0 a1 = some r) :
  Calls Tryz.prog 38 #[.slice A0 l0.length c0,.string a1] w fun e w' => e = .returned (.bool r) ∧ Drawn0 w w' := by
 have al := aK aj
 have ao := aK ak
 clear aj ak
 have H : (r43_inText.l0 k l0 a1 0) = some r := h
 clear h
 have H' := aK H
 clear H
 go_enter Tryz.func38,Tryz.ntmps38
 go_wp2
 go_loopg [5] k (fun kq v5 w' => ∃ (aa : Int),v5 = .int .i64 aa ∧ Aside0 (r43_inText.l0 kq l0 a1 aa = some r) ∧ Aside0 (kq ≤ k) ∧ Drawn0 w w')
 case atStart => exact ⟨(0),(by first|rfl|(simp;done)|(simp [*];done)),H',⟨Nat.le_refl _⟩,by repeat (first|exact Drawn0.refl _|apply Drawn0.step)⟩
 case round =>
  clear H'
  try clear p2
  obtain ⟨aa,rfl,HA,am,⟨m1,rfl⟩⟩ := hrel
  cases gk with
 |zero => exact absurd HA.out (by simp [r43_inText.l0])
 |succ k1 =>
   have H := HA.out
   clear HA
   simp only [r43_inText.l0] at H
   by_cases c3 : aa < (l0.length : Int)
   ·rw [if_pos c3] at H
    have ag := decide_eq_true c3
    clear c3
    obtain ⟨c4,H⟩ := iS H
    have an := decide_eq_true c4
    clear c4
    by_cases c5 : (rdOf ByteArray.empty l0 aa).toList = a1.toList
    ·rw [if_pos c5] at H
     have ah := beq_iff_eq.mpr c5
     have ai := bne_eq_false_iff_eq.mpr c5
     clear c5
     obtain rfl := Option.some.inj H
     have ab : 0 ≤ (aa : Int) := dA
     have ac : aa < (l0.length : Int) := dA
     obtain ⟨af,ae,ad⟩ := Kd.at_string al.out aa ab ac
     cases ae
     replace ab := eq_true ab
     replace ac := eq_true ac
     go_wp2
     go_ret
     exact ⟨by first|rfl|(simp;done)|(simp [*];done),by repeat (first|exact Drawn0.refl _|apply Drawn0.step)⟩
    ·rw [if_neg c5] at H
     have ah := beq_eq_false_iff_ne.mpr c5
     have ai := bne_iff_ne.mpr c5
     have H' := aK H
     clear H
     have ab : 0 ≤ (aa : Int) := dA
     have ac : aa < (l0.length : Int) := dA
     obtain ⟨af,ae,ad⟩ := Kd.at_string al.out aa ab ac
     cases ae
     replace ab := eq_true ab
     replace ac := eq_true ac
     go_wp2
     go_roundg k1
     case measure => have := am.out;omega
     case rel => exact ⟨(wrap64 (aa + 1)),(by first|rfl|(simp;done)|(simp [*];done)),H',⟨by have := am.out;omega⟩,by repeat (first|exact Drawn0.refl _|apply Drawn0.step)⟩
   ·rw [if_neg c3] at H
    have ag := decide_eq_false c3
    clear c3
    obtain rfl := Option.some.inj H
    go_wp2
    go_ret
    exact ⟨by first|rfl|(simp;done)|(simp [*];done),by repeat (first|exact Drawn0.refl _|apply Drawn0.step)⟩

/-! ### r43_Drop: function 27 -/
def r43_Drop.l0 : Nat → List (S36) → ByteArray → Int → Int → Option ((List (S36)) × Int)
|0,_,_,_,_ => none
|k + 1,x0,x1,x6,x7 => if x7 < (x0.length : Int) then (if 0 ≤ x7 then ((r43_inText.f k ((rd_T36 x0 x7).f2) x1).bind fun ae => (if ae = true then (some (([] : List (S36)),15)) else (r43_Drop.l0 k x0 x1 x6 (wrap64 (x7 + 1))))) else (none)) else ((some (([] : List (S36)) : List (S36))).bind fun aa => (if 0 ≤ x6 then (if x6 ≤ (x0.length : Int) then ((some (x0.take (x6 : Int).toNat : List (S36))).bind fun ab => (if aa.length + ab.length < 2199023255552 then ((some (aa ++ ab : List (S36))).bind fun ac => (if 0 ≤ (wrap64 (x6 + 1)) then (if (wrap64 (x6 + 1)) ≤ (x0.length : Int) then ((some (x0.drop ((wrap64 (x6 + 1)) : Int).toNat : List (S36))).bind fun ad => (if ac.length + ad.length < 2199023255552 then (some ((ac ++ ad),0)) else (none))) else (none)) else (none))) else (none))) else (none)) else (none)))
def r43_Drop.f (k : Nat) (l0 : List (S36)) (a1 : ByteArray) : Option ((List (S36)) × Int) := (r43_at.f k l0 a1).bind fun aa => (if aa < 0 then (some (([] : List (S36)), 8)) else (r43_Drop.l0 k l0 a1 aa 0))
theorem r43_Drop.mono_l : ∀ k, (∀ y0 y1 y2 y3, LeO (r43_Drop.l0 k y0 y1 y2 y3) (r43_Drop.l0 (k + 1) y0 y1 y2 y3))
|0 => fun _ _ _ _ r h => by simp [r43_Drop.l0] at h
|k + 1 => by
  have ih0 := r43_Drop.mono_l k
  ·intro y0 y1 y2 y3
   unfold r43_Drop.l0
   repeat' (with_reducible first|exact ih0 _ _ _ _|exact r43_inText.mono _ _ _|exact LeO.refl _|exact LeO.none _|refine LeO.ite ?_ ?_|refine LeO.bind ?_ (fun _ => ?_))
theorem r43_Drop.mono : ∀ a0 a1 k, LeO (r43_Drop.f k a0 a1) (r43_Drop.f (k + 1) a0 a1) := by
 intro a0 a1 k
 have ih0 := r43_Drop.mono_l k
 unfold r43_Drop.f
 repeat' (with_reducible first|exact ih0 _ _ _ _|exact r43_at.mono _ _ _|exact r43_inText.mono _ _ _|exact LeO.refl _|exact LeO.none _|refine LeO.ite ?_ ?_|refine LeO.bind ?_ (fun _ => ?_))
def r43_Drop.T9 : Bool × List (List Nat × List Nat) := (true, [([], []), ([], []), ([], []), ([1, 2], [1, 2]), ([0, 3], [0, 3]), ([], []), ([], []), ([6], [6]), ([5, 7], [5, 7]), ([4, 8, 4], [4, 8]), ([9, 9, 0, 1, 2, 3, 4, 5, 6, 7, 8, 9], [9]), ([10, 0, 1, 2, 3, 4, 5, 6, 7, 8, 9, 10], [])])
def r43_Drop.B9 : List Nat := [0, 0, 0, 6, 15, 0, 0, 64, 224, 511, 1023, 2047]
theorem r43_Drop.tab9 : rtab .any (opsOf Tryz.f27 9) = r43_Drop.T9 := by kernel_rfl
theorem r43_Drop.bits9 : waitsOk r43_Drop.T9.2 r43_Drop.B9 = true := by kernel_rfl
theorem r43_Drop.calls (k : Nat) (az : Nat → Prop) (A0 : Option Addr) (c0 : Nat) (l0 : List (S36)) (a1 : ByteArray) (r1 : List (S36)) (r2 : Int) (w : World) (ck : Kd.V k36 36 w w.heap.size (fun k_ => az k_) (.slice A0 l0.length c0) l0) (h : r43_Drop.f k l0 a1 = some (r1, r2)) :
  Calls Tryz.prog 27 #[.slice A0 l0.length c0,.string a1] w fun e w' => ∃ b4 : Value,e = .returned (.tuple #[b4,.int .i64 r2]) ∧ Kd.N k36 36 w' w.heap.size (fun k_ => (az k_ ∨ w.heap.size ≤ k_)) b4 r1 ∧ Below w.heap.size w w' := by
 have bH := aK (show Kd.V k36 36 w w.heap.size (fun k_ => (az k_ ∨ w.heap.size ≤ k_)) (.slice A0 l0.length c0) l0 from Kd.V_mono ck (fun k_ hk => .inl hk))
 have HB := aK (Below.refl w.heap.size w)
 have H : ((r43_at.f k l0 a1).bind fun aa => (if aa < 0 then (some (([] : List (S36)),8)) else (r43_Drop.l0 k l0 a1 aa 0))) = some (r1,r2) := h
 clear h
 replace H := Option.bind_eq_some_iff.mp H
 obtain ⟨aa,b5,H⟩ := H
 have A3 := aK b5
 clear b5
 by_cases c4 : aa < 0
 ·rw [if_pos c4] at H
  have bI := decide_eq_true c4
  clear c4
  simp only [Option.some.injEq,Prod.mk.injEq] at H
  obtain ⟨rfl,rfl⟩ := H
  go_enter Tryz.func27,Tryz.ntmps27
  go_wp2_with (first|((with_reducible refine gate_callee (f := 36) rfl ?_);refine gL 10 Tryz.func36 #[.slice A0 l0.length c0,.string a1] ?_;(with_reducible refine (r43_at.calls k _ _ l0 a1 aa _ ?aw ?ax A3.out).mono ?_);(case aw => exact cM (Kd.V_reads' bH.out).2.2);(case ax => exact (Kd.V_reads' bH.out).2.1);rintro e w' ⟨rfl,⟨nd,rfl⟩⟩;refine ⟨_,rfl,?_⟩))
  go_ret2
  exact ⟨_,by first|rfl|(simp [errW_none,errW_some] <;> rfl)|(simp [*,errW_none,errW_some] <;> rfl),by first|exact Kd.S_nil _ _ _ _ _|exact Kd.N_nil _ _ _ _ _|exact Kd.V_nil _ _ _ _ _|exact Kd.Q_nil _ _ _ _ _|exact Kd.R_nil _ _ _ _ _,bM HB.out⟩
 ·rw [if_neg c4] at H
  have bI := decide_eq_false c4
  clear c4
  have H' := aK H
  clear H
  go_enter Tryz.func27,Tryz.ntmps27
  go_wp2_with (first|((with_reducible refine gate_callee (f := 36) rfl ?_);refine gL 10 Tryz.func36 #[.slice A0 l0.length c0,.string a1] ?_;(with_reducible refine (r43_at.calls k _ _ l0 a1 aa _ ?aw ?ax A3.out).mono ?_);(case aw => exact cM (Kd.V_reads' bH.out).2.2);(case ax => exact (Kd.V_reads' bH.out).2.1);rintro e w' ⟨rfl,⟨nd,rfl⟩⟩;refine ⟨_,rfl,?_⟩))
  go_loopg [7] k (fun kq v7 w' => ∃ (af : Int),v7 = .int .i64 af ∧ Aside0 (r43_Drop.l0 kq l0 a1 aa af = some (r1,r2)) ∧ Aside0 (kq ≤ k) ∧ Aside0 (Kd.V k36 36 w' w.heap.size (fun k_ => (az k_ ∨ w.heap.size ≤ k_)) (.slice A0 l0.length c0) l0) ∧ Aside0 (Below w.heap.size w w'))
  case atStart => exact ⟨(0),(by first|rfl|(simp;done)|(simp [*];done)),H',⟨Nat.le_refl _⟩,⟨vM bH.out⟩,⟨bM HB.out⟩⟩
  case round =>
   clear H'
   try clear p2
   try clear c4
   try clear bI
   obtain ⟨af,rfl,HA,b6,ab,HB⟩ := hrel
   cases gk with
  |zero => exact absurd HA.out (by simp [r43_Drop.l0])
  |succ k1 =>
    have H := HA.out
    clear HA
    simp only [r43_Drop.l0] at H
    by_cases c5 : af < (l0.length : Int)
    ·rw [if_pos c5] at H
     have bU := decide_eq_true c5
     clear c5
     obtain ⟨c6,H⟩ := iS H
     have cl := decide_eq_true c6
     clear c6
     replace H := Option.bind_eq_some_iff.mp H
     obtain ⟨bV,b7,H⟩ := H
     have A7 := aK b7
     clear b7
     by_cases c8 : bV = true
     ·subst c8
      rw [if_pos rfl] at H
      simp only [Option.some.injEq,Prod.mk.injEq] at H
      obtain ⟨rfl,rfl⟩ := H
      have aA : 0 ≤ (af : Int) := dA
      have aC : af < (l0.length : Int) := dA
      obtain ⟨bJ,bu,bv,aU,aV,bx,a6,aD,aE,an,ao,ap,aq⟩ := at_T36 (Kd.V_reads' ab.out).2.2 af aA aC
      cases bx
      obtain ⟨bK,aW,aX,am⟩ := Kd.V_get ab.out z36 af aA (by first|exact aC|exact dA|(have e_ := (Kd.V_reads' ab.out).1;omega))
      obtain ⟨a7,a8,a9,ba,rfl,ag,ah,ai,aj⟩ := k36_openF aX
      have ac := am 1 _ rfl
      rw [add_field _ _ 1 (by omega)] at ac
      replace ac := Option.some.inj (ac.symm.trans aD)
      injection ac with hva_ hvn_ hvc_
      rw [hva_] at ah
      rw [hvc_] at ag
      have bb := aK (show Kd.V (Kd.int .i64) 3 _ w.heap.size _ _ ((rd_T36 l0 af).f1) from Kd.V_mk ag ah)
      clear hva_ hvn_ hvc_ ah ag
      have ad := am 2 _ rfl
      rw [add_field _ _ 2 (by omega)] at ad
      replace ad := Option.some.inj (ad.symm.trans aE)
      injection ad with hva_ hvn_ hvc_
      rw [hva_] at aj
      rw [hvc_] at ai
      have bc := aK (show Kd.V Kd.string 9 _ w.heap.size _ _ ((rd_T36 l0 af).f2) from Kd.V_mk ai aj)
      clear hva_ hvn_ hvc_ aj ai
      clear am aW
      have bd := aK ao
      have be := aK an
      clear ao an
      have aG := aK aq
      have aH := aK ap
      clear aq ap
      replace aA := eq_true aA
      replace aC := eq_true aC
      go_wp2_with (first|((with_reducible refine gate_callee (f := 38) rfl ?_);refine gL 25 Tryz.func38 #[.slice aU ((rd_T36 l0 af).f2).length aV,.string a1] ?_;(with_reducible refine (r43_inText.calls k1 _ _ ((rd_T36 l0 af).f2) a1 true _ ?aw ?ax A7.out).mono ?_);(case aw => repeat (first|exact (cM aG.out)|(with_reducible refine Kd.C_alloc ?_ _)|(with_reducible refine Kd.C_drewN ?_ _)|(with_reducible refine Kd.C_drew ?_)));(case ax => exact aH.out);rintro e w' ⟨rfl,⟨nd,rfl⟩⟩;refine ⟨_,rfl,?_⟩))
      go_ret2
      exact ⟨_,by first|rfl|(simp [errW_none,errW_some] <;> rfl)|(simp [*,errW_none,errW_some] <;> rfl),by first|exact Kd.S_nil _ _ _ _ _|exact Kd.N_nil _ _ _ _ _|exact Kd.V_nil _ _ _ _ _|exact Kd.Q_nil _ _ _ _ _|exact Kd.R_nil _ _ _ _ _,bM HB.out⟩
     ·replace c8 := Bool.eq_false_iff.mpr c8
      subst c8
      rw [if_neg (show ¬ (false = true) by decide)] at H
      have H' := aK H
      clear H
      have aA : 0 ≤ (af : Int) := dA
      have aC : af < (l0.length : Int) := dA
      obtain ⟨bJ,bu,bv,aU,aV,bx,a6,aD,aE,an,ao,ap,aq⟩ := at_T36 (Kd.V_reads' ab.out).2.2 af aA aC
      cases bx
      obtain ⟨bK,aW,aX,am⟩ := Kd.V_get ab.out z36 af aA (by first|exact aC|exact dA|(have e_ := (Kd.V_reads' ab.out).1;omega))
      obtain ⟨a7,a8,a9,ba,rfl,ag,ah,ai,aj⟩ := k36_openF aX
      have ac := am 1 _ rfl
      rw [add_field _ _ 1 (by omega)] at ac
      replace ac := Option.some.inj (ac.symm.trans aD)
      injection ac with hva_ hvn_ hvc_
      rw [hva_] at ah
      rw [hvc_] at ag
      have bb := aK (show Kd.V (Kd.int .i64) 3 _ w.heap.size _ _ ((rd_T36 l0 af).f1) from Kd.V_mk ag ah)
      clear hva_ hvn_ hvc_ ah ag
      have ad := am 2 _ rfl
      rw [add_field _ _ 2 (by omega)] at ad
      replace ad := Option.some.inj (ad.symm.trans aE)
      injection ad with hva_ hvn_ hvc_
      rw [hva_] at aj
      rw [hvc_] at ai
      have bc := aK (show Kd.V Kd.string 9 _ w.heap.size _ _ ((rd_T36 l0 af).f2) from Kd.V_mk ai aj)
      clear hva_ hvn_ hvc_ aj ai
      clear am aW
      have bd := aK ao
      have be := aK an
      clear ao an
      have aG := aK aq
      have aH := aK ap
      clear aq ap
      replace aA := eq_true aA
      replace aC := eq_true aC
      go_wp2_with (first|((with_reducible refine gate_callee (f := 38) rfl ?_);refine gL 25 Tryz.func38 #[.slice aU ((rd_T36 l0 af).f2).length aV,.string a1] ?_;(with_reducible refine (r43_inText.calls k1 _ _ ((rd_T36 l0 af).f2) a1 false _ ?aw ?ax A7.out).mono ?_);(case aw => repeat (first|exact (cM aG.out)|(with_reducible refine Kd.C_alloc ?_ _)|(with_reducible refine Kd.C_drewN ?_ _)|(with_reducible refine Kd.C_drew ?_)));(case ax => exact aH.out);rintro e w' ⟨rfl,⟨nd,rfl⟩⟩;refine ⟨_,rfl,?_⟩))
      go_roundg k1
      case measure => have := b6.out;omega
      case rel => exact ⟨(wrap64 (af + 1)),(by first|rfl|(simp;done)|(simp [*];done)),H',⟨by have := b6.out;omega⟩,⟨vM ab.out⟩,⟨bM HB.out⟩⟩
    ·rw [if_neg c5] at H
     have bU := decide_eq_false c5
     clear c5
     obtain ⟨a0,aJ⟩ : ∃ y_ : List (S36),y_ = (([] : List (S36))) := ⟨_,rfl⟩
     replace H : (if 0 ≤ aa then (if aa ≤ (l0.length : Int) then ((some (l0.take (aa : Int).toNat : List (S36))).bind fun ay => (if a0.length + ay.length < 2199023255552 then ((some (a0 ++ ay : List (S36))).bind fun ar => (if 0 ≤ (wrap64 (aa + 1)) then (if (wrap64 (aa + 1)) ≤ (l0.length : Int) then ((some (l0.drop ((wrap64 (aa + 1)) : Int).toNat : List (S36))).bind fun ae => (if ar.length + ae.length < 2199023255552 then (some ((ar ++ ae),0)) else (none))) else (none)) else (none))) else (none))) else (none)) else (none)) = some (r1,r2) := by first|(rw [aJ];with_reducible exact H)|(have aI := (Option.bind_some _ _).symm.trans H;rw [aJ];with_reducible exact aI)|(have aI := (Option.bind_some _ _).symm.trans H;with_reducible exact aI)|with_reducible exact H|(rw [aJ];exact H)|exact H
     have bh := aK aJ
     clear aJ
     by_cases c9 : 0 ≤ aa
     ·rw [if_pos c9] at H
      have cm := eq_true c9
      have cn := decide_eq_true c9
      clear c9
      obtain ⟨c10,H⟩ := iS H
      have b8 := eq_true c10
      have b9 := decide_eq_true c10
      clear c10
      obtain ⟨ay,aM⟩ : ∃ y_ : List (S36),y_ = (l0.take (aa : Int).toNat) := ⟨_,rfl⟩
      replace H : (if a0.length + ay.length < 2199023255552 then ((some (a0 ++ ay : List (S36))).bind fun ar => (if 0 ≤ (wrap64 (aa + 1)) then (if (wrap64 (aa + 1)) ≤ (l0.length : Int) then ((some (l0.drop ((wrap64 (aa + 1)) : Int).toNat : List (S36))).bind fun ae => (if ar.length + ae.length < 2199023255552 then (some ((ar ++ ae),0)) else (none))) else (none)) else (none))) else (none)) = some (r1,r2) := by first|(rw [aM];with_reducible exact H)|(have aI := (Option.bind_some _ _).symm.trans H;rw [aM];with_reducible exact aI)|(have aI := (Option.bind_some _ _).symm.trans H;with_reducible exact aI)|with_reducible exact H|(rw [aM];exact H)|exact H
      have bi := aK aM
      clear aM
      obtain ⟨ca,H⟩ := iS H
      have bL := aK ca
      clear ca
      obtain ⟨ar,aN⟩ : ∃ y_ : List (S36),y_ = (a0 ++ ay) := ⟨_,rfl⟩
      replace H : (if 0 ≤ (wrap64 (aa + 1)) then (if (wrap64 (aa + 1)) ≤ (l0.length : Int) then ((some (l0.drop ((wrap64 (aa + 1)) : Int).toNat : List (S36))).bind fun ae => (if ar.length + ae.length < 2199023255552 then (some ((ar ++ ae),0)) else (none))) else (none)) else (none)) = some (r1,r2) := by first|(rw [aN];with_reducible exact H)|(have aI := (Option.bind_some _ _).symm.trans H;rw [aN];with_reducible exact aI)|(have aI := (Option.bind_some _ _).symm.trans H;with_reducible exact aI)|with_reducible exact H|(rw [aN];exact H)|exact H
      have bN := aK aN
      clear aN
      obtain ⟨au,aY⟩ : ∃ j_ : Int,(wrap64 (aa + 1)) = j_ := ⟨_,rfl⟩
      replace H : (if 0 ≤ (au) then (if (au) ≤ (l0.length : Int) then ((some (l0.drop ((au) : Int).toNat : List (S36))).bind fun ae => (if ar.length + ae.length < 2199023255552 then (some ((ar ++ ae),0)) else (none))) else (none)) else (none)) = some (r1,r2) := by first|(rw [aY] at H;exact H)|(simp only [aY] at H ⊢;exact H)
      have bW : (IntKind.i64.wrap (aa + 1)) = au := (i64_w _).trans aY
      obtain ⟨bX,H⟩ := iS H
      have cb := eq_true bX
      have cc := decide_eq_true bX
      clear bX
      obtain ⟨bY,H⟩ := iS H
      have cd := eq_true bY
      have ce := decide_eq_true bY
      clear bY
      obtain ⟨ae,aP⟩ : ∃ y_ : List (S36),y_ = (l0.drop ((au) : Int).toNat) := ⟨_,rfl⟩
      replace H : (if ar.length + ae.length < 2199023255552 then (some ((ar ++ ae),0)) else (none)) = some (r1,r2) := by first|(rw [aP];with_reducible exact H)|(have aI := (Option.bind_some _ _).symm.trans H;rw [aP];with_reducible exact aI)|(have aI := (Option.bind_some _ _).symm.trans H;with_reducible exact aI)|with_reducible exact H|(rw [aP];exact H)|exact H
      have bj := aK aP
      clear aP
      obtain ⟨cf,H⟩ := iS H
      have bO := aK cf
      clear cf
      obtain ⟨bZ,aQ⟩ : ∃ y_ : List (S36),y_ = (ar ++ ae) := ⟨_,rfl⟩
      replace H : (some (bZ,0)) = some (r1,r2) := by first|(rw [aQ];with_reducible exact H)|(have aI := (Option.bind_some _ _).symm.trans H;rw [aQ];with_reducible exact aI)|(have aI := (Option.bind_some _ _).symm.trans H;with_reducible exact aI)|with_reducible exact H|(rw [aQ];exact H)|exact H
      have bP := aK aQ
      clear aQ
      simp only [Option.some.injEq,Prod.mk.injEq] at H
      obtain ⟨rfl,rfl⟩ := H
      try go_wp2
      have a2 := aK (Kd.V_drew ab.out)
      have a3 := aK (below_drew1 HB.out)
      clear ab
      clear HB
      have ab := a2
      have HB := a3
      clear a2 a3
      have b1 : (aa : Int) ≤ ((l0.length : Int) : Int) := dA
      obtain ⟨co,bk,_,bQ,_⟩ := info_parts info36
      have aZ : l0.length ≤ c0 := (Kd.V_reads' ab.out).2.1
      have bR : Kd.F k36 _ _ A0 l0.length l0 := (Kd.V_at (base := w.heap.size) ab.out).2.2
      have bz := cut_to (P := Tryz.prog) 22 36 .i64 Tryz.underlying22 bk A0 l0.length c0 aa (dA) b1 aZ
      have bB := Kd.F_take (m := (aa : Int).toNat) bR (by omega)
      have bC : ay.length = (aa : Int).toNat := (by rw [bi.out,List.length_take];omega)
      rw [← bi.out] at bB
      rw [← bC] at bz
      have ak := aK (show Kd.V k36 36 _ w.heap.size _ (.slice A0 ay.length c0) ay from Kd.V_mk (by omega) bB)
      have cg := aK (show ay.length ≤ c0 from by omega)
      clear bB bR aZ bk bQ
      have cp := aK bC
      clear bC
      replace b1 := eq_true b1
      have b2 : ((au) : Int) ≤ ((l0.length : Int) : Int) := dA
      obtain ⟨cq,bm,_,bn,_⟩ := info_parts info36
      have av : l0.length ≤ c0 := (Kd.V_reads' ab.out).2.1
      have bS : Kd.F k36 _ _ A0 l0.length l0 := (Kd.V_at (base := w.heap.size) ab.out).2.2
      have b3 : (0 : Int) ≤ ((au) : Int) := dA
      have bD := cut_from (P := Tryz.prog) 22 36 .i64 Tryz.underlying22 bm 3 bn A0 l0.length c0 (au) b3 b2
      have a4 := Kd.F_cut (m := ((au) : Int).toNat) (c := c0) bS (by omega) av
      obtain ⟨ch,bf⟩ : ∃ A1,A1 = (if c0 = ((au) : Int).toNat then A0 else (A0 : Option Addr).map (·.add (((au) : Int).toNat * 3))) := ⟨_,rfl⟩
      obtain ⟨ci,bg⟩ : ∃ c1,c1 = c0 - ((au) : Int).toNat := ⟨_,rfl⟩
      have a5 : ae.length = l0.length - ((au) : Int).toNat := (by rw [bj.out,List.length_drop] <;> omega)
      rw [show (l0).drop ((au) : Int).toNat = ae from bj.out.symm] at a4
      replace a4 : Kd.F k36 _ _ ch ae.length ae := (by rw [bf];exact a4)
      rw [← a5,← bf,← bg] at bD
      have al := aK (show Kd.V k36 36 _ w.heap.size _ (.slice ch ae.length ci) ae from Kd.V_mk (by rw [a5,bg];exact Nat.sub_le_sub_right av _) a4)
      have cj := aK (show ae.length ≤ ci from by rw [a5,bg];exact Nat.sub_le_sub_right av _)
      clear a4 bS av bm bn bg
      have cr := aK a5
      have cs := aK bf
      clear a5 bf
      replace b2 := eq_true b2
      refine start_ (n := 12) (S := fun w' => True) (ds := []) (bA 12 0) (by kernel_rfl) rfl rfl trivial (fun hHeld => ?_);refine with_tabW r43_Drop.tab9 r43_Drop.bits9 (fun HT_ HW_ => ?_)
      generalize wr.drew = w16 at ab HB ak al hHeld ⊢
      refine pure_ (i := 1) (N := some 27) (v := ?_) (a' := ?_) (bA 12 2) rfl rfl (any_of HT_.out (by kernel_rfl)) (fun _ _ _ h => h) (Or.inl ⟨by rfl,?_⟩) ?_ ?_
      rotate_left
      ·intro w'
       go_simp
       with_reducible rfl
      rotate_left
      ·simp only [Act.put,z1_,z2_,z3_,i64_w,i32_w]
       rfl
      refine pure_ (i := 2) (N := some 28) (v := ?_) (a' := ?_) (bA 12 6) rfl rfl (any_of HT_.out (by kernel_rfl)) (fun _ _ _ h => h) (Or.inl ⟨by rfl,?_⟩) ?_ ?_
      rotate_left
      ·intro w'
       go_simp
       with_reducible rfl
      rotate_left
      ·simp only [Act.put,z1_,z2_,z3_,i64_w,i32_w]
       rfl
      refine pure_ (i := 3) (N := some 29) (v := ?_) (a' := ?_) (bA 12 14) rfl rfl (any_of HT_.out (by kernel_rfl)) (fun _ _ _ h => h) (Or.inl ⟨by rfl,?_⟩) ?_ ?_
      rotate_left
      ·intro w'
       go_simp
       with_reducible rfl
      rotate_left
      ·simp only [Act.put,z1_,z2_,z3_,i64_w,i32_w]
       rfl
      refine pure_ (i := 5) (N := some 31) (v := ?_) (a' := ?_) (bA 12 46) rfl rfl (any_of HT_.out (by kernel_rfl)) (fun _ _ _ h => h) (Or.inl ⟨by rfl,?_⟩) ?_ ?_
      rotate_left
      ·intro w'
       go_simp
       with_reducible rfl
      rotate_left
      ·simp only [Act.put,z1_,z2_,z3_,i64_w,i32_w]
       rfl
      refine pure_ (i := 6) (N := some 32) (v := ?_) (a' := ?_) (bA 12 110) rfl rfl (any_of HT_.out (by kernel_rfl)) (fun _ _ _ h => h) (Or.inl ⟨by rfl,?_⟩) ?_ ?_
      rotate_left
      ·intro w'
       go_simp
       with_reducible rfl
      rotate_left
      ·simp only [Act.put,z1_,z2_,z3_,i64_w,i32_w]
       rfl
      refine pure_ (i := 7) (N := some 33) (v := ?_) (a' := ?_) (bA 12 238) rfl rfl (any_of HT_.out (by kernel_rfl)) (fun _ _ _ h => h) (Or.inl ⟨by rfl,?_⟩) ?_ ?_
      rotate_left
      ·intro w'
       go_simp
       with_reducible rfl
      rotate_left
      ·simp only [Act.put,z1_,z2_,z3_,i64_w,i32_w]
       rfl
      refine pure_ (i := 8) (N := some 34) (v := ?_) (a' := ?_) (bA 12 494) rfl rfl (any_of HT_.out (by kernel_rfl)) (fun _ _ _ h => h) (Or.inl ⟨by rfl,?_⟩) ?_ ?_
      rotate_left
      ·intro w'
       go_simp
       with_reducible rfl
      rotate_left
      ·simp only [Act.put,z1_,z2_,z3_,i64_w,i32_w]
       rfl
      refine one_ (i := 0) (N := some 26) (bA 12 495) rfl rfl (one_of HT_.out (by kernel_rfl)) (by decide) (fun K hK => ?_)
      refine Kd.N_lit_step k36 _ 36 ?hg (N' := 26) ?hd (xs := ([] : List (S36))) (inner := []) (ok := (fun k_ => (az k_ ∨ w.heap.size ≤ k_))) (okp := (fun k_ => (az k_ ∨ w.heap.size ≤ k_))) ?hr ?hp (fun _ hk => hk) ((show ∀ k_,w16.heap.size ≤ k_ → (fun k_ => (az k_ ∨ w.heap.size ≤ k_)) k_ from fun k_ hk => (.inr (Nat.le_trans (below_size (bM HB.out)) hk))) _ (Nat.le_refl _)) (Below.refl _ _) (Nat.le_refl _) (by simp) ?_;(case hd => rfl);(case hg => rfl);(case hr => first|(go_simp;done)|(go_simp;rfl));(case hp => exact (Reps.none _ _))
      intro bE cu aT hb hg_ hnew_
      clear hg_ hnew_
      (first|rw [← bh.out] at aT|(simp only [Int.reduceToNat] at aT;rw [← bh.out] at aT))
      have a2 := aK (Kd.V_elder' (vM ab.out) (Kd.N_base aT) hb)
      have a3 := aK (Kd.V_elder' (vM ak.out) (Kd.N_base aT) hb)
      have bo := aK (Kd.V_elder' (vM al.out) (Kd.N_base aT) hb)
      have bp := aK (Kd.N_lower aT (below_size (bM HB.out)))
      have bq := aK (below_step (bM HB.out) hb)
      clear ab
      clear ak
      clear al
      clear HB
      have ab := a2
      have ak := a3
      have al := bo
      have br := bp
      have HB := bq
      clear a2 a3 bo bp bq
      clear hb aT
      refine hK.out _ _ trivial (fun hHeld => ?_)
      clear hK K
      refine norm_ (a' := ?_) ?_ ?_
      rotate_left
      ·show Act.put _ (some 26) _ = _
       simp only [Act.put,z1_,z2_,z3_,i64_w,i32_w]
       rfl
      refine one_ (i := 4) (N := some 30) (bA 12 511) rfl rfl (one_of HT_.out (by kernel_rfl)) (by decide) (fun K hK => ?_)
      refine Kd.N_append_rows_step k36 (w0 := w) w.heap.size (by rfl) (.tmp 26) (.tmp 29) 22 36 (.agg #[(.string ⟨#[]⟩),(.slice none 0 0),(.slice none 0 0)]) 64 rfl Tryz.underlying22 info36 rfl (by decide) (by omega) bE a0 ay _ _ _ (fun k_ => (az k_ ∨ w.heap.size ≤ k_)) (fun k_ => ((fun k_ => (az k_ ∨ w.heap.size ≤ k_))) k_ ∧ some k_ ≠ (bE : Value).ownBlock) rfl rfl ?aO ?aR (fun _ hk => hk) ?aF ?aB ?aS ?aL ?_
      (case aR => exact (by skip;exact Kd.V_F (Kd.V_mono (ok' := (fun k_ => ((fun k_ => (az k_ ∨ w.heap.size ≤ k_))) k_ ∧ some k_ ≠ (bE : Value).ownBlock)) (ak.out) (fun k_ hk => ⟨hk.1,hk.2⟩))))
      (case aB => exact (bM HB.out))
      (case aF => exact (fun k_ hk => (.inr (Nat.le_trans (below_size (bM HB.out)) hk))))
      (case aO => exact (nM br.out))
      (case aS => exact (below_size (bM HB.out)))
      (case aL => have := bL.out;omega)
      intro bF cv ho hb hg hat
      rw [← bN.out] at ho
      have a2 := aK (Kd.V_afterv (ok := (fun k_ => (az k_ ∨ w.heap.size ≤ k_))) (vM ab.out) hg hat)
      have a3 := aK (Kd.V_afterv (ok := (fun k_ => (az k_ ∨ w.heap.size ≤ k_))) (vM ak.out) hg hat)
      have bo := aK (Kd.V_afterv (ok := (fun k_ => (az k_ ∨ w.heap.size ≤ k_))) (vM al.out) hg hat)
      have bp := aK (hb)
      have bq := aK (ho)
      clear ab
      clear ak
      clear al
      clear HB
      clear br
      have ab := a2
      have ak := a3
      have al := bo
      have HB := bp
      have bs := bq
      clear a2 a3 bo bp bq
      clear ho hb hg hat
      refine hK.out _ _ trivial (fun hHeld => ?_)
      clear hK K
      refine norm_ (a' := ?_) ?_ ?_
      rotate_left
      ·show Act.put _ (some 30) _ = _
       simp only [Act.put,z1_,z2_,z3_,i64_w,i32_w]
       rfl
      refine one_ (i := 9) (N := some 35) (bA 12 1023) rfl rfl (one_of HT_.out (by kernel_rfl)) (by decide) (fun K hK => ?_)
      refine Kd.N_append_rows_step k36 (w0 := w) w.heap.size (by rfl) (.tmp 30) (.tmp 34) 22 36 (.agg #[(.string ⟨#[]⟩),(.slice none 0 0),(.slice none 0 0)]) 64 rfl Tryz.underlying22 info36 rfl (by decide) (by omega) bF ar ae _ _ _ (fun k_ => (az k_ ∨ w.heap.size ≤ k_)) (fun k_ => ((fun k_ => (az k_ ∨ w.heap.size ≤ k_))) k_ ∧ some k_ ≠ (bF : Value).ownBlock) rfl rfl ?aO ?aR (fun _ hk => hk) ?aF ?aB ?aS ?aL ?_
      (case aR => exact (by skip;exact Kd.V_F (Kd.V_mono (ok' := (fun k_ => ((fun k_ => (az k_ ∨ w.heap.size ≤ k_))) k_ ∧ some k_ ≠ (bF : Value).ownBlock)) (al.out) (fun k_ hk => ⟨hk.1,hk.2⟩))))
      (case aB => exact (bM HB.out))
      (case aF => exact (fun k_ hk => (.inr (Nat.le_trans (below_size (bM HB.out)) hk))))
      (case aO => exact (nM bs.out))
      (case aS => exact (below_size (bM HB.out)))
      (case aL => have := bO.out;omega)
      intro ct cw ho hb hg hat
      rw [← bP.out] at ho
      have a2 := aK (Kd.V_afterv (ok := (fun k_ => (az k_ ∨ w.heap.size ≤ k_))) (vM ab.out) hg hat)
      have a3 := aK (Kd.V_afterv (ok := (fun k_ => (az k_ ∨ w.heap.size ≤ k_))) (vM ak.out) hg hat)
      have bo := aK (Kd.V_afterv (ok := (fun k_ => (az k_ ∨ w.heap.size ≤ k_))) (vM al.out) hg hat)
      have bp := aK (hb)
      have bq := aK (ho)
      clear ab
      clear ak
      clear al
      clear HB
      clear bs
      have ab := a2
      have ak := a3
      have al := bo
      have HB := bp
      have bT := bq
      clear a2 a3 bo bp bq
      clear ho hb hg hat
      refine hK.out _ _ trivial (fun hHeld => ?_)
      clear hK K
      refine norm_ (a' := ?_) ?_ ?_
      rotate_left
      ·show Act.put _ (some 35) _ = _
       simp only [Act.put,z1_,z2_,z3_,i64_w,i32_w]
       rfl
      refine pure_ (i := 10) (N := some 4) (v := ?_) (a' := ?_) (bA 12 2047) rfl rfl (any_of HT_.out (by kernel_rfl)) (fun _ _ _ h => h) (Or.inl ⟨by rfl,?_⟩) ?_ ?_
      rotate_left
      ·intro w'
       go_simp
       with_reducible rfl
      rotate_left
      ·simp only [Act.put,z1_,z2_,z3_,i64_w,i32_w]
       rfl
      refine pure_ (i := 11) (N := some 5) (v := ?_) (a' := ?_) (bA 12 4095) rfl rfl (any_of HT_.out (by kernel_rfl)) (fun _ _ _ h => h) (Or.inl ⟨by rfl,?_⟩) ?_ ?_
      rotate_left
      ·intro w'
       go_simp
       with_reducible rfl
      rotate_left
      ·simp only [Act.put,z1_,z2_,z3_,i64_w,i32_w]
       rfl
      refine done_ (done_of HT_.out (by kernel_rfl)) ?_
      try go_wp2
      go_ret2
      exact ⟨_,by first|rfl|(simp [errW_none,errW_some] <;> rfl)|(simp only [← aY];first|rfl|(simp [errW_none,errW_some] <;> rfl))|(simp [*,errW_none,errW_some] <;> rfl),nM bT.out,bM HB.out⟩
     ·rw [if_neg c9] at H
      exact absurd H (by simp)

/-! ### group_find: function 41 -/
def group_find.l0 : Nat → ByteArray → List (S36) → Int → Int → Option (ByteArray × List Int × List ByteArray × Bool)
|0,_,_,_,_ => none
|k + 1,x1,x8,x9,aa => if aa < x9 then (if 0 ≤ aa then (if aa < (x8.length : Int) then (if ((rd_T36 x8 aa).f0).toList = x1.toList then (some ((rd_T36 x8 aa).f0,(rd_T36 x8 aa).f1,(rd_T36 x8 aa).f2,true)) else (group_find.l0 k x1 x8 x9 (wrap64 (aa + 1)))) else (none)) else (none)) else (some ((⟨#[]⟩ : ByteArray),([] : List Int),([] : List ByteArray),false))
def group_find.f (k : Nat) (l0 : List (S36)) (a1 : ByteArray) : Option (ByteArray × List Int × List ByteArray × Bool) := group_find.l0 k a1 l0 (l0.length : Int) 0
theorem group_find.mono_l : ∀ k, (∀ y0 y1 y2 y3, LeO (group_find.l0 k y0 y1 y2 y3) (group_find.l0 (k + 1) y0 y1 y2 y3))
|0 => fun _ _ _ _ r h => by simp [group_find.l0] at h
|k + 1 => by
  have ih0 := group_find.mono_l k
  ·intro y0 y1 y2 y3
   unfold group_find.l0
   repeat' (with_reducible first|exact ih0 _ _ _ _|exact LeO.refl _|exact LeO.none _|refine LeO.ite ?_ ?_|refine LeO.bind ?_ (fun _ => ?_))
theorem group_find.mono : ∀ a0 a1 k, LeO (group_find.f k a0 a1) (group_find.f (k + 1) a0 a1) := by
 intro a0 a1 k
 have ih0 := group_find.mono_l k
 unfold group_find.f
 repeat' (with_reducible first|exact ih0 _ _ _ _|exact LeO.refl _|exact LeO.none _|refine LeO.ite ?_ ?_|refine LeO.bind ?_ (fun _ => ?_))
theorem group_find.calls (k : Nat) (aV : Nat → Prop) (A0 : Option Addr) (c0 : Nat) (l0 : List (S36)) (a1 : ByteArray) (r1 : ByteArray) (r2 : List Int) (r3 : List ByteArray) (r4 : Bool) (w : World) (be : Kd.V k36 36 w w.heap.size (fun k_ => aV k_) (.slice A0 l0.length c0) l0) (h : group_find.f k l0 a1 = some (r1, r2, r3, r4)) :
  Calls Tryz.prog 41 #[.slice A0 l0.length c0,.string a1] w fun e w' => ∃ a7 a8 : Value,e = .returned (.tuple #[.agg #[.string r1,a7,a8],.bool r4]) ∧ Kd.V (Kd.int .i64) 3 w' w.heap.size (fun k_ => (aV k_ ∨ w.heap.size ≤ k_)) a7 r2 ∧ Kd.V Kd.string 9 w' w.heap.size (fun k_ => (aV k_ ∨ w.heap.size ≤ k_)) a8 r3 ∧ Below w.heap.size w w' := by
 have bf := Tryz.underlying36
 have a3 := aK (show Kd.V k36 36 w w.heap.size (fun k_ => (aV k_ ∨ w.heap.size ≤ k_)) (.slice A0 l0.length c0) l0 from Kd.V_mono be (fun k_ hk => .inl hk))
 have HB := aK (Below.refl w.heap.size w)
 have H : (group_find.l0 k a1 l0 (l0.length : Int) 0) = some (r1,r2,r3,r4) := h
 clear h
 have H' := aK H
 clear H
 go_enter Tryz.func41,Tryz.ntmps41
 go_wp2_with (first|((with_reducible refine gate_dst (N := 4) rfl ?_);refine box_event ?hg (N := 4) ?hd (cs := #[.string (⟨#[]⟩ : ByteArray),.slice none 0 0,.slice none 0 0]) (t := 36) ?hr ?_;(case hd => rfl);(case hg => rfl);(case hr => first|(go_simp;done)|(go_simp;rfl));intro af hg w3 hbox hb;replace a3 := aK (Kd.V_below (Kd.V_elderB (vM a3.out) af (Nat.le_of_eq hg.symm)) hb);have ag := aK (hbox);have aW := aK ((by rw [hg];exact (below_size (bM HB.out)) : w.heap.size ≤ af));have a9 := Ge.mk aW.out;have aX := aK ((by rw [hg];exact (below_size (bM HB.out)) : w.heap.size ≤ af));have ba := Ge.mk aX.out;replace HB := aK (below_step (bM HB.out) hb);clear hb hbox hg))
 go_loopg [10] k (fun kq bg w' => ∃ (aa : Int) (ah : ByteArray),bg = .int .i64 aa ∧ Aside0 (group_find.l0 kq a1 l0 (l0.length : Int) aa = some (r1,r2,r3,r4)) ∧ Aside0 (kq ≤ k) ∧ Aside0 (Kd.V k36 36 w' w.heap.size (fun k_ => (aV k_ ∨ w.heap.size ≤ k_) ∧ k_ ≠ af) (.slice A0 l0.length c0) l0) ∧ Aside0 (w'.heap[af]? = some (.cells #[.string ah,(.slice none 0 0),(.slice none 0 0)] 36 (0,0))) ∧ Aside0 (Below w.heap.size w w'))
 case atStart => exact ⟨(0),((⟨#[]⟩ : ByteArray)),(by first|rfl|(simp;done)|(simp [*];done)),H',⟨Nat.le_refl _⟩,⟨vM a3.out⟩,⟨kM ag.out⟩,⟨bG HB.out⟩⟩
 case round =>
  clear H'
  try clear p2
  obtain ⟨aa,ah,rfl,HA,bb,aA,ag,HB⟩ := hrel
  cases gk with
 |zero => exact absurd HA.out (by simp [group_find.l0])
 |succ k1 =>
   have H := HA.out
   clear HA
   simp only [group_find.l0] at H
   by_cases c4 : aa < (l0.length : Int)
   ·rw [if_pos c4] at H
    have a4 := decide_eq_true c4
    clear c4
    obtain ⟨c5,H⟩ := iS H
    have bh := decide_eq_true c5
    clear c5
    obtain ⟨c6,H⟩ := iS H
    have bi := decide_eq_true c6
    clear c6
    by_cases c7 : ((rd_T36 l0 aa).f0).toList = a1.toList
    ·rw [if_pos c7] at H
     have a5 := beq_iff_eq.mpr c7
     have a6 := bne_eq_false_iff_eq.mpr c7
     clear c7
     simp only [Option.some.injEq,Prod.mk.injEq] at H
     obtain ⟨rfl,rfl,rfl,rfl⟩ := H
     have aB : 0 ≤ (aa : Int) := dA
     have aC : aa < (l0.length : Int) := dA
     obtain ⟨aY,am,an,ao,ap,aU,aN,aD,aE,ar,au,av,aw⟩ := at_T36 (Kd.V_reads' aA.out).2.2 aa aB aC
     cases aU
     obtain ⟨aZ,aH,aI,aq⟩ := Kd.V_get aA.out z36 aa aB (by first|exact aC|exact dA|(have e_ := (Kd.V_reads' aA.out).1;omega))
     obtain ⟨aO,aP,aQ,aR,rfl,ai,aj,ak,al⟩ := k36_openF aI
     have ad := aq 1 _ rfl
     rw [add_field _ _ 1 (by omega)] at ad
     replace ad := Option.some.inj (ad.symm.trans aD)
     injection ad with hva_ hvn_ hvc_
     rw [hva_] at aj
     rw [hvc_] at ai
     have ay := aK (show Kd.V (Kd.int .i64) 3 _ w.heap.size _ _ ((rd_T36 l0 aa).f1) from Kd.V_mk ai aj)
     clear hva_ hvn_ hvc_ aj ai
     have ae := aq 2 _ rfl
     rw [add_field _ _ 2 (by omega)] at ae
     replace ae := Option.some.inj (ae.symm.trans aE)
     injection ae with hva_ hvn_ hvc_
     rw [hva_] at al
     rw [hvc_] at ak
     have az := aK (show Kd.V Kd.string 9 _ w.heap.size _ _ ((rd_T36 l0 aa).f2) from Kd.V_mk ak al)
     clear hva_ hvn_ hvc_ al ak
     clear aq aH
     have aF := aK au
     have aS := aK ar
     clear au ar
     have aG := aK aw
     have aT := aK av
     clear aw av
     replace aB := eq_true aB
     replace aC := eq_true aC
     go_wp2_with (first|((with_reducible refine gate_dst (N := 7) rfl ?_);refine box_event ?hg (N := 7) ?hd (cs := #[.string (⟨#[]⟩ : ByteArray),.slice none 0 0,.slice none 0 0]) (t := 36) ?hr ?_;(case hd => rfl);(case hg => rfl);(case hr => first|(go_simp;done)|(go_simp;rfl));intro ac hg w8 hbox hb;replace aA := aK (Kd.V_below (Kd.V_elderB (vM aA.out) ac (Nat.le_of_eq hg.symm)) hb);replace ay := aK (Kd.V_below (Kd.V_elderB (vM ay.out) ac (Nat.le_of_eq hg.symm)) hb);replace az := aK (Kd.V_below (Kd.V_elderB (vM az.out) ac (Nat.le_of_eq hg.symm)) hb);replace aF := aK (Kd.C_below (cM aF.out) hb);replace aG := aK (Kd.C_below (cM aG.out) hb);have aJ := aK (hbox);have aL := aK ((by rw [hg];exact (below_size (bG HB.out)) : w.heap.size ≤ ac));have a0 := Ge.mk aL.out;have aM := aK ((by rw [hg];exact (below_size (bG HB.out)) : w.heap.size ≤ ac));have a2 := Ge.mk aM.out;replace HB := aK (below_step (bG HB.out) hb);have ab := aK (nbL ag.out hg);have ax := aK (nbR ag.out hg);replace ag := aK (blk_below (kM ag.out) hb);clear hb hbox hg;have bj := ax.out;have bk := ab.out;obtain ⟨_,_,_,_,_,_⟩ := bk3_ aJ.out;obtain ⟨_,_,_,_,_,_⟩ := bk3_ ag.out))
     refine bodyPost_ret (results_ct rfl _ _ af 36 #[.string ((rd_T36 l0 aa).f0),.slice am ((rd_T36 l0 aa).f1).length an,.slice ao ((rd_T36 l0 aa).f2).length ap] (0,0) _ rfl (by refine kO ?_;refine blk_put (cs := #[.string ((rd_T36 l0 aa).f0),.slice am ((rd_T36 l0 aa).f1).length an,.slice none 0 0]) ?_ 2 _ rfl;refine kO ?_;refine blk_put (cs := #[.string ((rd_T36 l0 aa).f0),.slice none 0 0,.slice none 0 0]) ?_ 1 _ rfl;refine kO ?_;refine blk_put (cs := #[.string ah,.slice none 0 0,.slice none 0 0]) ?_ 0 _ rfl;refine kO ?_;refine blk_far ?_ ab.out _;refine kO ?_;refine blk_far ?_ ab.out _;refine kO ?_;refine blk_far ?_ ab.out _;refine kO ?_;exact ag.out) Tryz.underlying36 rfl (by kernel_rfl)) rfl ?_
     exact ⟨_,_,by first|rfl|(simp [errW_none,errW_some] <;> rfl)|(simp [*,errW_none,errW_some] <;> rfl),by (with_reducible repeat (first|apply Kd.V_alloc|apply Kd.V_drewN|apply Kd.V_drew));exact Kd.V_mono (Kd.V_far (p := ⟨af,2,none⟩) (Kd.V_far (p := ⟨af,1,none⟩) (Kd.V_far (p := ⟨af,0,none⟩) (Kd.V_far (p := ⟨ac,2,none⟩) (Kd.V_far (p := ⟨ac,1,none⟩) (Kd.V_far (p := ⟨ac,0,none⟩) (Kd.V_mono (Kd.V_mono ay.out (fun k_ hk => (⟨hk,hk.2⟩ : _ ∧ k_ ≠ ac))) (fun k_ hk => (⟨hk,hk.1.1.2⟩ : _ ∧ k_ ≠ af))) (fun _ hk => hk.1.2) (.string ((rd_T36 l0 aa).f0))) (fun _ hk => hk.1.2) (.slice am ((rd_T36 l0 aa).f1).length an)) (fun _ hk => hk.1.2) (.slice ao ((rd_T36 l0 aa).f2).length ap)) (fun _ hk => hk.2) (.string ((rd_T36 l0 aa).f0))) (fun _ hk => hk.2) (.slice am ((rd_T36 l0 aa).f1).length an)) (fun _ hk => hk.2) (.slice ao ((rd_T36 l0 aa).f2).length ap)) (fun _ hk => hk.1.1.1.1),by (with_reducible repeat (first|apply Kd.V_alloc|apply Kd.V_drewN|apply Kd.V_drew));exact Kd.V_mono (Kd.V_far (p := ⟨af,2,none⟩) (Kd.V_far (p := ⟨af,1,none⟩) (Kd.V_far (p := ⟨af,0,none⟩) (Kd.V_far (p := ⟨ac,2,none⟩) (Kd.V_far (p := ⟨ac,1,none⟩) (Kd.V_far (p := ⟨ac,0,none⟩) (Kd.V_mono (Kd.V_mono az.out (fun k_ hk => (⟨hk,hk.2⟩ : _ ∧ k_ ≠ ac))) (fun k_ hk => (⟨hk,hk.1.1.2⟩ : _ ∧ k_ ≠ af))) (fun _ hk => hk.1.2) (.string ((rd_T36 l0 aa).f0))) (fun _ hk => hk.1.2) (.slice am ((rd_T36 l0 aa).f1).length an)) (fun _ hk => hk.1.2) (.slice ao ((rd_T36 l0 aa).f2).length ap)) (fun _ hk => hk.2) (.string ((rd_T36 l0 aa).f0))) (fun _ hk => hk.2) (.slice am ((rd_T36 l0 aa).f1).length an)) (fun _ hk => hk.2) (.slice ao ((rd_T36 l0 aa).f2).length ap)) (fun _ hk => hk.1.1.1.1),bG HB.out⟩
    ·rw [if_neg c7] at H
     have a5 := beq_eq_false_iff_ne.mpr c7
     have a6 := bne_iff_ne.mpr c7
     have H' := aK H
     clear H
     have aB : 0 ≤ (aa : Int) := dA
     have aC : aa < (l0.length : Int) := dA
     obtain ⟨aY,am,an,ao,ap,aU,aN,aD,aE,ar,au,av,aw⟩ := at_T36 (Kd.V_reads' aA.out).2.2 aa aB aC
     cases aU
     obtain ⟨aZ,aH,aI,aq⟩ := Kd.V_get aA.out z36 aa aB (by first|exact aC|exact dA|(have e_ := (Kd.V_reads' aA.out).1;omega))
     obtain ⟨aO,aP,aQ,aR,rfl,ai,aj,ak,al⟩ := k36_openF aI
     have ad := aq 1 _ rfl
     rw [add_field _ _ 1 (by omega)] at ad
     replace ad := Option.some.inj (ad.symm.trans aD)
     injection ad with hva_ hvn_ hvc_
     rw [hva_] at aj
     rw [hvc_] at ai
     have ay := aK (show Kd.V (Kd.int .i64) 3 _ w.heap.size _ _ ((rd_T36 l0 aa).f1) from Kd.V_mk ai aj)
     clear hva_ hvn_ hvc_ aj ai
     have ae := aq 2 _ rfl
     rw [add_field _ _ 2 (by omega)] at ae
     replace ae := Option.some.inj (ae.symm.trans aE)
     injection ae with hva_ hvn_ hvc_
     rw [hva_] at al
     rw [hvc_] at ak
     have az := aK (show Kd.V Kd.string 9 _ w.heap.size _ _ ((rd_T36 l0 aa).f2) from Kd.V_mk ak al)
     clear hva_ hvn_ hvc_ al ak
     clear aq aH
     have aF := aK au
     have aS := aK ar
     clear au ar
     have aG := aK aw
     have aT := aK av
     clear aw av
     replace aB := eq_true aB
     replace aC := eq_true aC
     go_wp2_with (first|((with_reducible refine gate_dst (N := 7) rfl ?_);refine box_event ?hg (N := 7) ?hd (cs := #[.string (⟨#[]⟩ : ByteArray),.slice none 0 0,.slice none 0 0]) (t := 36) ?hr ?_;(case hd => rfl);(case hg => rfl);(case hr => first|(go_simp;done)|(go_simp;rfl));intro ac hg bm hbox hb;replace aA := aK (Kd.V_below (Kd.V_elderB (vM aA.out) ac (Nat.le_of_eq hg.symm)) hb);have aJ := aK (hbox);have aL := aK ((by rw [hg];exact (below_size (bG HB.out)) : w.heap.size ≤ ac));have a0 := Ge.mk aL.out;have aM := aK ((by rw [hg];exact (below_size (bG HB.out)) : w.heap.size ≤ ac));have a2 := Ge.mk aM.out;replace HB := aK (below_step (bG HB.out) hb);have ab := aK (nbL ag.out hg);have ax := aK (nbR ag.out hg);replace ag := aK (blk_below (kM ag.out) hb);clear hb hbox hg;have bc := ax.out;have bd := ab.out;obtain ⟨_,_,_,_,_,_⟩ := bk3_ aJ.out))
     go_roundg k1
     case measure => have := bb.out;omega
     case rel => exact ⟨(wrap64 (aa + 1)),(ah),(by first|rfl|(simp;done)|(simp [*];done)),H',⟨by have := bb.out;omega⟩,⟨by (with_reducible repeat (first|apply Kd.V_alloc|apply Kd.V_drewN|apply Kd.V_drew));exact Kd.V_mono (Kd.V_far (p := ⟨ac,2,none⟩) (Kd.V_far (p := ⟨ac,1,none⟩) (Kd.V_far (p := ⟨ac,0,none⟩) (Kd.V_mono aA.out (fun k_ hk => (⟨hk,hk.2⟩ : _ ∧ k_ ≠ ac))) (fun _ hk => hk.2) (.string ((rd_T36 l0 aa).f0))) (fun _ hk => hk.2) (.slice am ((rd_T36 l0 aa).f1).length an)) (fun _ hk => hk.2) (.slice ao ((rd_T36 l0 aa).f2).length ap)) (fun _ hk => ⟨hk.1.1.1,hk.1.1.2⟩)⟩,⟨by refine kO ?_;refine blk_far ?_ ab.out _;refine kO ?_;refine blk_far ?_ ab.out _;refine kO ?_;refine blk_far ?_ ab.out _;refine kO ?_;exact ag.out⟩,⟨bG HB.out⟩⟩
   ·rw [if_neg c4] at H
    have a4 := decide_eq_false c4
    clear c4
    simp only [Option.some.injEq,Prod.mk.injEq] at H
    obtain ⟨rfl,rfl,rfl,rfl⟩ := H
    obtain ⟨_,_,_,_,_,_⟩ := bk3_ ag.out
    go_wp2
    refine bodyPost_ret (results_ct rfl _ _ af 36 #[.string (⟨#[]⟩ : ByteArray),.slice none 0 0,.slice none 0 0] (0,0) _ rfl (by refine kO ?_;refine blk_put (cs := #[.string (⟨#[]⟩ : ByteArray),.slice none 0 0,.slice none 0 0]) ?_ 2 _ rfl;refine kO ?_;refine blk_put (cs := #[.string (⟨#[]⟩ : ByteArray),.slice none 0 0,.slice none 0 0]) ?_ 1 _ rfl;refine kO ?_;refine blk_put (cs := #[.string ah,.slice none 0 0,.slice none 0 0]) ?_ 0 _ rfl;refine kO ?_;exact ag.out) Tryz.underlying36 rfl (by kernel_rfl)) rfl ?_
    exact ⟨_,_,by first|rfl|(simp [errW_none,errW_some] <;> rfl)|(simp [*,errW_none,errW_some] <;> rfl),Kd.V_nil _ _ _ _ _,Kd.V_nil _ _ _ _ _,bG HB.out⟩
end Go.Proofs.YtobdkgoapcbipaaGreatDoor.J
