import Derived.Test.YtgadbpljlpclnaaGreatDoorHx0
import Derived.Test.YtgadbpljlpclnaaGreatDoorHx9
namespace Go.Proofs.YtgadbpljlpclnaaGreatDoor.H
open Go.RowKit Go.Proofs.YtgadbpljlpclnaaGreatDoorW.PrintWords Go.Proofs.YtgadbpljlpclnaaGreatDoorW.PrintLast Go.Proofs.YtgadbpljlpclnaaGreatDoorW.PrintMore
set_option maxHeartbeats 4000000
set_option maxRecDepth 100000
attribute [local go_sem] max2_int min2_int max_two min_two max_three min_three max_four min_four
set_option linter.unusedVariables false
set_option linter.unusedSimpArgs false

/-! ### glob_letter: function 91 -/
def glob_letter.f (a0 : Int) : Option (Bool) := if a0 ≥ 97 then (if a0 ≤ 122 then (some true) else (if a0 ≥ 65 then (if a0 ≤ 90 then (some true) else (if a0 ≥ 48 then (if a0 ≤ 57 then (some true) else (if a0 = 46 then (some true) else (if a0 = 95 then (some true) else (some (a0 == 45))))) else (if a0 = 46 then (some true) else (if a0 = 95 then (some true) else (some (a0 == 45)))))) else (if a0 ≥ 48 then (if a0 ≤ 57 then (some true) else (if a0 = 46 then (some true) else (if a0 = 95 then (some true) else (some (a0 == 45))))) else (if a0 = 46 then (some true) else (if a0 = 95 then (some true) else (some (a0 == 45))))))) else (if a0 ≥ 65 then (if a0 ≤ 90 then (some true) else (if a0 ≥ 48 then (if a0 ≤ 57 then (some true) else (if a0 = 46 then (some true) else (if a0 = 95 then (some true) else (some (a0 == 45))))) else (if a0 = 46 then (some true) else (if a0 = 95 then (some true) else (some (a0 == 45)))))) else (if a0 ≥ 48 then (if a0 ≤ 57 then (some true) else (if a0 = 46 then (some true) else (if a0 = 95 then (some true) else (some (a0 == 45))))) else (if a0 = 46 then (some true) else (if a0 = 95 then (some true) else (some (a0 == 45))))))
theorem glob_letter.calls (a0 : Int) (r : Bool) (w : World) (h : glob_letter.f a0 = some r) :
  Calls Tryz.prog 91 #[.int .u8 a0] w fun e w' => e = .returned (.bool r) ∧ Drawn0 w w' := by
 unfold glob_letter.f at h
 have H := h
 clear h
 by_cases c2 : a0 ≥ 97
 ·rw [if_pos c2] at H
  have a9 := decide_eq_true c2
  clear c2
  by_cases c3 : a0 ≤ 122
  ·rw [if_pos c3] at H
   have ba := decide_eq_true c3
   clear c3
   obtain rfl := Option.some.inj H
   go_enter Tryz.func91,Tryz.ntmps91
   go_wp2
   go_ret
   exact ⟨by first|rfl|(simp;done)|(simp [*];done),by repeat (first|exact Drawn0.refl _|apply Drawn0.step)⟩
  ·rw [if_neg c3] at H
   have ba := decide_eq_false c3
   clear c3
   by_cases c4 : a0 ≥ 65
   ·rw [if_pos c4] at H
    have bb := decide_eq_true c4
    clear c4
    by_cases c5 : a0 ≤ 90
    ·rw [if_pos c5] at H
     have bc := decide_eq_true c5
     clear c5
     obtain rfl := Option.some.inj H
     go_enter Tryz.func91,Tryz.ntmps91
     go_wp2
     go_ret
     exact ⟨by first|rfl|(simp;done)|(simp [*];done),by repeat (first|exact Drawn0.refl _|apply Drawn0.step)⟩
    ·rw [if_neg c5] at H
     have bc := decide_eq_false c5
     clear c5
     by_cases c6 : a0 ≥ 48
     ·rw [if_pos c6] at H
      have bd := decide_eq_true c6
      clear c6
      by_cases c7 : a0 ≤ 57
      ·rw [if_pos c7] at H
       have be := decide_eq_true c7
       clear c7
       obtain rfl := Option.some.inj H
       go_enter Tryz.func91,Tryz.ntmps91
       go_wp2
       go_ret
       exact ⟨by first|rfl|(simp;done)|(simp [*];done),by repeat (first|exact Drawn0.refl _|apply Drawn0.step)⟩
      ·rw [if_neg c7] at H
       have be := decide_eq_false c7
       clear c7
       by_cases c8 : a0 = 46
       ·rw [if_pos c8] at H
        have bf := beq_iff_eq.mpr c8
        have bg := bne_eq_false_iff_eq.mpr c8
        clear c8
        obtain rfl := Option.some.inj H
        go_enter Tryz.func91,Tryz.ntmps91
        go_wp2
        go_ret
        exact ⟨by first|rfl|(simp;done)|(simp [*];done),by repeat (first|exact Drawn0.refl _|apply Drawn0.step)⟩
       ·rw [if_neg c8] at H
        have bf := beq_eq_false_iff_ne.mpr c8
        have bg := bne_iff_ne.mpr c8
        by_cases c9 : a0 = 95
        ·rw [if_pos c9] at H
         have bh := beq_iff_eq.mpr c9
         have bi := bne_eq_false_iff_eq.mpr c9
         clear c9
         obtain rfl := Option.some.inj H
         go_enter Tryz.func91,Tryz.ntmps91
         go_wp2
         go_ret
         exact ⟨by first|rfl|(simp;done)|(simp [*];done),by repeat (first|exact Drawn0.refl _|apply Drawn0.step)⟩
        ·rw [if_neg c9] at H
         have bh := beq_eq_false_iff_ne.mpr c9
         have bi := bne_iff_ne.mpr c9
         obtain rfl := Option.some.inj H
         go_enter Tryz.func91,Tryz.ntmps91
         go_wp2
         go_ret
         exact ⟨by first|rfl|(simp;done)|(simp [*];done),by repeat (first|exact Drawn0.refl _|apply Drawn0.step)⟩
     ·rw [if_neg c6] at H
      have bd := decide_eq_false c6
      clear c6
      by_cases c10 : a0 = 46
      ·rw [if_pos c10] at H
       have ax := beq_iff_eq.mpr c10
       have ay := bne_eq_false_iff_eq.mpr c10
       clear c10
       obtain rfl := Option.some.inj H
       go_enter Tryz.func91,Tryz.ntmps91
       go_wp2
       go_ret
       exact ⟨by first|rfl|(simp;done)|(simp [*];done),by repeat (first|exact Drawn0.refl _|apply Drawn0.step)⟩
      ·rw [if_neg c10] at H
       have ax := beq_eq_false_iff_ne.mpr c10
       have ay := bne_iff_ne.mpr c10
       by_cases aa : a0 = 95
       ·rw [if_pos aa] at H
        have az := beq_iff_eq.mpr aa
        have aA := bne_eq_false_iff_eq.mpr aa
        clear aa
        obtain rfl := Option.some.inj H
        go_enter Tryz.func91,Tryz.ntmps91
        go_wp2
        go_ret
        exact ⟨by first|rfl|(simp;done)|(simp [*];done),by repeat (first|exact Drawn0.refl _|apply Drawn0.step)⟩
       ·rw [if_neg aa] at H
        have az := beq_eq_false_iff_ne.mpr aa
        have aA := bne_iff_ne.mpr aa
        obtain rfl := Option.some.inj H
        go_enter Tryz.func91,Tryz.ntmps91
        go_wp2
        go_ret
        exact ⟨by first|rfl|(simp;done)|(simp [*];done),by repeat (first|exact Drawn0.refl _|apply Drawn0.step)⟩
   ·rw [if_neg c4] at H
    have bb := decide_eq_false c4
    clear c4
    by_cases an : a0 ≥ 48
    ·rw [if_pos an] at H
     have aB := decide_eq_true an
     clear an
     by_cases ao : a0 ≤ 57
     ·rw [if_pos ao] at H
      have aC := decide_eq_true ao
      clear ao
      obtain rfl := Option.some.inj H
      go_enter Tryz.func91,Tryz.ntmps91
      go_wp2
      go_ret
      exact ⟨by first|rfl|(simp;done)|(simp [*];done),by repeat (first|exact Drawn0.refl _|apply Drawn0.step)⟩
     ·rw [if_neg ao] at H
      have aC := decide_eq_false ao
      clear ao
      by_cases ab : a0 = 46
      ·rw [if_pos ab] at H
       have aD := beq_iff_eq.mpr ab
       have aE := bne_eq_false_iff_eq.mpr ab
       clear ab
       obtain rfl := Option.some.inj H
       go_enter Tryz.func91,Tryz.ntmps91
       go_wp2
       go_ret
       exact ⟨by first|rfl|(simp;done)|(simp [*];done),by repeat (first|exact Drawn0.refl _|apply Drawn0.step)⟩
      ·rw [if_neg ab] at H
       have aD := beq_eq_false_iff_ne.mpr ab
       have aE := bne_iff_ne.mpr ab
       by_cases ac : a0 = 95
       ·rw [if_pos ac] at H
        have aF := beq_iff_eq.mpr ac
        have aG := bne_eq_false_iff_eq.mpr ac
        clear ac
        obtain rfl := Option.some.inj H
        go_enter Tryz.func91,Tryz.ntmps91
        go_wp2
        go_ret
        exact ⟨by first|rfl|(simp;done)|(simp [*];done),by repeat (first|exact Drawn0.refl _|apply Drawn0.step)⟩
       ·rw [if_neg ac] at H
        have aF := beq_eq_false_iff_ne.mpr ac
        have aG := bne_iff_ne.mpr ac
        obtain rfl := Option.some.inj H
        go_enter Tryz.func91,Tryz.ntmps91
        go_wp2
        go_ret
        exact ⟨by first|rfl|(simp;done)|(simp [*];done),by repeat (first|exact Drawn0.refl _|apply Drawn0.step)⟩
    ·rw [if_neg an] at H
     have aB := decide_eq_false an
     clear an
     by_cases ad : a0 = 46
     ·rw [if_pos ad] at H
      have aH := beq_iff_eq.mpr ad
      have aI := bne_eq_false_iff_eq.mpr ad
      clear ad
      obtain rfl := Option.some.inj H
      go_enter Tryz.func91,Tryz.ntmps91
      go_wp2
      go_ret
      exact ⟨by first|rfl|(simp;done)|(simp [*];done),by repeat (first|exact Drawn0.refl _|apply Drawn0.step)⟩
     ·rw [if_neg ad] at H
      have aH := beq_eq_false_iff_ne.mpr ad
      have aI := bne_iff_ne.mpr ad
      by_cases ae : a0 = 95
      ·rw [if_pos ae] at H
       have aJ := beq_iff_eq.mpr ae
       have aL := bne_eq_false_iff_eq.mpr ae
       clear ae
       obtain rfl := Option.some.inj H
       go_enter Tryz.func91,Tryz.ntmps91
       go_wp2
       go_ret
       exact ⟨by first|rfl|(simp;done)|(simp [*];done),by repeat (first|exact Drawn0.refl _|apply Drawn0.step)⟩
      ·rw [if_neg ae] at H
       have aJ := beq_eq_false_iff_ne.mpr ae
       have aL := bne_iff_ne.mpr ae
       obtain rfl := Option.some.inj H
       go_enter Tryz.func91,Tryz.ntmps91
       go_wp2
       go_ret
       exact ⟨by first|rfl|(simp;done)|(simp [*];done),by repeat (first|exact Drawn0.refl _|apply Drawn0.step)⟩
 ·rw [if_neg c2] at H
  have a9 := decide_eq_false c2
  clear c2
  by_cases ap : a0 ≥ 65
  ·rw [if_pos ap] at H
   have aM := decide_eq_true ap
   clear ap
   by_cases aq : a0 ≤ 90
   ·rw [if_pos aq] at H
    have aN := decide_eq_true aq
    clear aq
    obtain rfl := Option.some.inj H
    go_enter Tryz.func91,Tryz.ntmps91
    go_wp2
    go_ret
    exact ⟨by first|rfl|(simp;done)|(simp [*];done),by repeat (first|exact Drawn0.refl _|apply Drawn0.step)⟩
   ·rw [if_neg aq] at H
    have aN := decide_eq_false aq
    clear aq
    by_cases ar : a0 ≥ 48
    ·rw [if_pos ar] at H
     have aO := decide_eq_true ar
     clear ar
     by_cases au : a0 ≤ 57
     ·rw [if_pos au] at H
      have aP := decide_eq_true au
      clear au
      obtain rfl := Option.some.inj H
      go_enter Tryz.func91,Tryz.ntmps91
      go_wp2
      go_ret
      exact ⟨by first|rfl|(simp;done)|(simp [*];done),by repeat (first|exact Drawn0.refl _|apply Drawn0.step)⟩
     ·rw [if_neg au] at H
      have aP := decide_eq_false au
      clear au
      by_cases af : a0 = 46
      ·rw [if_pos af] at H
       have aQ := beq_iff_eq.mpr af
       have aR := bne_eq_false_iff_eq.mpr af
       clear af
       obtain rfl := Option.some.inj H
       go_enter Tryz.func91,Tryz.ntmps91
       go_wp2
       go_ret
       exact ⟨by first|rfl|(simp;done)|(simp [*];done),by repeat (first|exact Drawn0.refl _|apply Drawn0.step)⟩
      ·rw [if_neg af] at H
       have aQ := beq_eq_false_iff_ne.mpr af
       have aR := bne_iff_ne.mpr af
       by_cases ag : a0 = 95
       ·rw [if_pos ag] at H
        have aS := beq_iff_eq.mpr ag
        have aT := bne_eq_false_iff_eq.mpr ag
        clear ag
        obtain rfl := Option.some.inj H
        go_enter Tryz.func91,Tryz.ntmps91
        go_wp2
        go_ret
        exact ⟨by first|rfl|(simp;done)|(simp [*];done),by repeat (first|exact Drawn0.refl _|apply Drawn0.step)⟩
       ·rw [if_neg ag] at H
        have aS := beq_eq_false_iff_ne.mpr ag
        have aT := bne_iff_ne.mpr ag
        obtain rfl := Option.some.inj H
        go_enter Tryz.func91,Tryz.ntmps91
        go_wp2
        go_ret
        exact ⟨by first|rfl|(simp;done)|(simp [*];done),by repeat (first|exact Drawn0.refl _|apply Drawn0.step)⟩
    ·rw [if_neg ar] at H
     have aO := decide_eq_false ar
     clear ar
     by_cases ah : a0 = 46
     ·rw [if_pos ah] at H
      have aU := beq_iff_eq.mpr ah
      have aV := bne_eq_false_iff_eq.mpr ah
      clear ah
      obtain rfl := Option.some.inj H
      go_enter Tryz.func91,Tryz.ntmps91
      go_wp2
      go_ret
      exact ⟨by first|rfl|(simp;done)|(simp [*];done),by repeat (first|exact Drawn0.refl _|apply Drawn0.step)⟩
     ·rw [if_neg ah] at H
      have aU := beq_eq_false_iff_ne.mpr ah
      have aV := bne_iff_ne.mpr ah
      by_cases ai : a0 = 95
      ·rw [if_pos ai] at H
       have aW := beq_iff_eq.mpr ai
       have aX := bne_eq_false_iff_eq.mpr ai
       clear ai
       obtain rfl := Option.some.inj H
       go_enter Tryz.func91,Tryz.ntmps91
       go_wp2
       go_ret
       exact ⟨by first|rfl|(simp;done)|(simp [*];done),by repeat (first|exact Drawn0.refl _|apply Drawn0.step)⟩
      ·rw [if_neg ai] at H
       have aW := beq_eq_false_iff_ne.mpr ai
       have aX := bne_iff_ne.mpr ai
       obtain rfl := Option.some.inj H
       go_enter Tryz.func91,Tryz.ntmps91
       go_wp2
       go_ret
       exact ⟨by first|rfl|(simp;done)|(simp [*];done),by repeat (first|exact Drawn0.refl _|apply Drawn0.step)⟩
  ·rw [if_neg ap] at H
   have aM := decide_eq_false ap
   clear ap
   by_cases av : a0 ≥ 48
   ·rw [if_pos av] at H
    have aY := decide_eq_true av
    clear av
    by_cases aw : a0 ≤ 57
    ·rw [if_pos aw] at H
     have aZ := decide_eq_true aw
     clear aw
     obtain rfl := Option.some.inj H
     go_enter Tryz.func91,Tryz.ntmps91
     go_wp2
     go_ret
     exact ⟨by first|rfl|(simp;done)|(simp [*];done),by repeat (first|exact Drawn0.refl _|apply Drawn0.step)⟩
    ·rw [if_neg aw] at H
     have aZ := decide_eq_false aw
     clear aw
     by_cases aj : a0 = 46
     ·rw [if_pos aj] at H
      have a1 := beq_iff_eq.mpr aj
      have a2 := bne_eq_false_iff_eq.mpr aj
      clear aj
      obtain rfl := Option.some.inj H
      go_enter Tryz.func91,Tryz.ntmps91
      go_wp2
      go_ret
      exact ⟨by first|rfl|(simp;done)|(simp [*];done),by repeat (first|exact Drawn0.refl _|apply Drawn0.step)⟩
     ·rw [if_neg aj] at H
      have a1 := beq_eq_false_iff_ne.mpr aj
      have a2 := bne_iff_ne.mpr aj
      by_cases ak : a0 = 95
      ·rw [if_pos ak] at H
       have a3 := beq_iff_eq.mpr ak
       have a4 := bne_eq_false_iff_eq.mpr ak
       clear ak
       obtain rfl := Option.some.inj H
       go_enter Tryz.func91,Tryz.ntmps91
       go_wp2
       go_ret
       exact ⟨by first|rfl|(simp;done)|(simp [*];done),by repeat (first|exact Drawn0.refl _|apply Drawn0.step)⟩
      ·rw [if_neg ak] at H
       have a3 := beq_eq_false_iff_ne.mpr ak
       have a4 := bne_iff_ne.mpr ak
       obtain rfl := Option.some.inj H
       go_enter Tryz.func91,Tryz.ntmps91
       go_wp2
       go_ret
       exact ⟨by first|rfl|(simp;done)|(simp [*];done),by repeat (first|exact Drawn0.refl _|apply Drawn0.step)⟩
   ·rw [if_neg av] at H
    have aY := decide_eq_false av
    clear av
    by_cases al : a0 = 46
    ·rw [if_pos al] at H
     have a5 := beq_iff_eq.mpr al
     have a6 := bne_eq_false_iff_eq.mpr al
     clear al
     obtain rfl := Option.some.inj H
     go_enter Tryz.func91,Tryz.ntmps91
     go_wp2
     go_ret
     exact ⟨by first|rfl|(simp;done)|(simp [*];done),by repeat (first|exact Drawn0.refl _|apply Drawn0.step)⟩
    ·rw [if_neg al] at H
     have a5 := beq_eq_false_iff_ne.mpr al
     have a6 := bne_iff_ne.mpr al
     by_cases am : a0 = 95
     ·rw [if_pos am] at H
      have a7 := beq_iff_eq.mpr am
      have a8 := bne_eq_false_iff_eq.mpr am
      clear am
      obtain rfl := Option.some.inj H
      go_enter Tryz.func91,Tryz.ntmps91
      go_wp2
      go_ret
      exact ⟨by first|rfl|(simp;done)|(simp [*];done),by repeat (first|exact Drawn0.refl _|apply Drawn0.step)⟩
     ·rw [if_neg am] at H
      have a7 := beq_eq_false_iff_ne.mpr am
      have a8 := bne_iff_ne.mpr am
      obtain rfl := Option.some.inj H
      go_enter Tryz.func91,Tryz.ntmps91
      go_wp2
      go_ret
      exact ⟨by first|rfl|(simp;done)|(simp [*];done),by repeat (first|exact Drawn0.refl _|apply Drawn0.step)⟩

/-! ### glob_ValidPath: function 65 -/
mutual
def glob_ValidPath.l0 : Nat → List ByteArray → Int → Int → Option (Bool)
|0,_,_,_ => none
|k + 1,ab,ac,aa => if aa < ac then (if 0 ≤ aa then (if aa < (ab.length : Int) then (if (rdOf ByteArray.empty ab aa).toList = ([46] : List UInt8) then (glob_ValidPath.j1 k (rdOf ByteArray.empty ab aa) ab ac aa true) else (if (rdOf ByteArray.empty ab aa).toList = ([46,46] : List UInt8) then (glob_ValidPath.j1 k (rdOf ByteArray.empty ab aa) ab ac aa true) else (if ((rdOf ByteArray.empty ab aa).size : Int) < 1 then (glob_ValidPath.j1 k (rdOf ByteArray.empty ab aa) ab ac aa true) else (glob_ValidPath.j1 k (rdOf ByteArray.empty ab aa) ab ac aa (decide (((rdOf ByteArray.empty ab aa).size : Int) > 24)))))) else (none)) else (none)) else (some true)
def glob_ValidPath.j1 : Nat → ByteArray → List ByteArray → Int → Int → Bool → Option (Bool)
|0,_,_,_,_,_ => none
|k + 1,x4,aa,ab,ac,ad => if ad = true then (some false) else (glob_ValidPath.l1 k x4 0 aa ab ac)
def glob_ValidPath.l1 : Nat → ByteArray → Int → List ByteArray → Int → Int → Option (Bool)
|0,_,_,_,_,_ => none
|k + 1,x4,x5,ab,ac,ad => if x5 = (x4.size : Int) then (glob_ValidPath.l0 k ab ac (wrap64 (ad + 1))) else (if 0 ≤ x5 then (if x5 < (x4.size : Int) then ((glob_letter.f (bt x4 x5)).bind fun aa => (if aa = true then (glob_ValidPath.l1 k x4 (wrap64 (x5 + 1)) ab ac ad) else (some false))) else (none)) else (none))
end
def glob_ValidPath.f (k : Nat) (a0 : ByteArray) : Option (Bool) := if (a0.size : Int) > 60 then (some false) else ((strings_Split.f k a0 (⟨#[47]⟩ : ByteArray)).bind fun aa => (glob_ValidPath.l0 k aa (aa.length : Int) 0))
theorem glob_ValidPath.mono_l : ∀ k, (∀ y0 y1 y2, LeO (glob_ValidPath.l0 k y0 y1 y2) (glob_ValidPath.l0 (k + 1) y0 y1 y2)) ∧ (∀ y0 y1 y2 y3 y4, LeO (glob_ValidPath.j1 k y0 y1 y2 y3 y4) (glob_ValidPath.j1 (k + 1) y0 y1 y2 y3 y4)) ∧ (∀ y0 y1 y2 y3 y4, LeO (glob_ValidPath.l1 k y0 y1 y2 y3 y4) (glob_ValidPath.l1 (k + 1) y0 y1 y2 y3 y4))
|0 => ⟨fun _ _ _ r h => by simp [glob_ValidPath.l0] at h,fun _ _ _ _ _ r h => by simp [glob_ValidPath.j1] at h,fun _ _ _ _ _ r h => by simp [glob_ValidPath.l1] at h⟩
|k + 1 => by
  obtain ⟨ih0,ih1,ih2⟩ := glob_ValidPath.mono_l k
  refine ⟨?_,?_,?_⟩
  ·intro y0 y1 y2
   unfold glob_ValidPath.l0
   repeat' (with_reducible first|exact ih1 _ _ _ _ _|exact LeO.refl _|exact LeO.none _|refine LeO.ite ?_ ?_|refine LeO.bind ?_ (fun _ => ?_))
  ·intro y0 y1 y2 y3 y4
   unfold glob_ValidPath.j1
   repeat' (with_reducible first|exact ih2 _ _ _ _ _|exact LeO.refl _|exact LeO.none _|refine LeO.ite ?_ ?_|refine LeO.bind ?_ (fun _ => ?_))
  ·intro y0 y1 y2 y3 y4
   unfold glob_ValidPath.l1
   repeat' (with_reducible first|exact ih0 _ _ _|exact ih2 _ _ _ _ _|exact LeO.refl _|exact LeO.none _|refine LeO.ite ?_ ?_|refine LeO.bind ?_ (fun _ => ?_))
theorem glob_ValidPath.mono : ∀ a0 k, LeO (glob_ValidPath.f k a0) (glob_ValidPath.f (k + 1) a0) := by
 intro a0 k
 obtain ⟨ih0,ih1,ih2⟩ := glob_ValidPath.mono_l k
 unfold glob_ValidPath.f
 repeat' (with_reducible first|exact ih0 _ _ _|exact ih1 _ _ _ _ _|exact ih2 _ _ _ _ _|exact strings_Split.mono _ _ _|exact LeO.refl _|exact LeO.none _|refine LeO.ite ?_ ?_|refine LeO.bind ?_ (fun _ => ?_))
theorem glob_ValidPath.calls (k : Nat) (a0 : ByteArray) (r : Bool) (w : World) (h : glob_ValidPath.f k a0 = some r) :
  Calls Tryz.prog 65 #[.string a0] w fun e w' => e = .returned (.bool r) ∧ Below w.heap.size w w' := by
 have HB := aK (Below.refl w.heap.size w)
 have H : (if (a0.size : Int) > 60 then (some false) else ((strings_Split.f k a0 (⟨#[47]⟩ : ByteArray)).bind fun ab => (glob_ValidPath.l0 k ab (ab.length : Int) 0))) = some r := h
 clear h
 by_cases c2 : (a0.size : Int) > 60
 ·rw [if_pos c2] at H
  have aq := decide_eq_true c2
  have ar : decide (60 < a0.size) = true := decide_eq_true (by omega)
  clear c2
  obtain rfl := Option.some.inj H
  go_enter Tryz.func65,Tryz.ntmps65
  go_wp2
  go_step3
  go_wp2
  (try (go_step3;go_wp2))
  first|go_ret|(rw [Exit.noGoto_ret];go_ret)
  exact ⟨by first|rfl|(simp [errW_none,errW_some] <;> rfl)|(simp [*,errW_none,errW_some] <;> rfl),bM HB.out⟩
 ·rw [if_neg c2] at H
  have aq := decide_eq_false c2
  have ar : decide (60 < a0.size) = false := decide_eq_false (by omega)
  clear c2
  replace H := Option.bind_eq_some_iff.mp H
  obtain ⟨ab,aT,H⟩ := H
  have A3 := aK aT
  clear aT
  have H' := aK H
  clear H
  go_enter Tryz.func65,Tryz.ntmps65
  go_wp2
  go_step3
  go_wp2_with (first|((with_reducible refine gate_callee (f := 90) rfl ?_);refine gL 10 Tryz.func90 #[.string a0,.string (⟨#[47]⟩ : ByteArray)] ?_;(with_reducible refine (strings_Split.calls k a0 (⟨#[47]⟩ : ByteArray) ab _ A3.out).mono ?_);rintro e w4 ⟨aL,rfl,au,hb⟩;refine ⟨_,rfl,?_⟩;have af := aK (Kd.R_lower au (below_size (bM HB.out)));replace HB := aK (below_step (bM HB.out) hb);(try clear hb);(try clear au);obtain ⟨aU,aG,aM⟩ := Kd.R_slice af.out;subst aM))
  (try (go_step3;go_wp2_with (first|((with_reducible refine gate_callee (f := 90) rfl ?_);refine gL 10 Tryz.func90 #[.string a0,.string (⟨#[47]⟩ : ByteArray)] ?_;(with_reducible refine (strings_Split.calls k a0 (⟨#[47]⟩ : ByteArray) ab _ A3.out).mono ?_);rintro e w4 ⟨aL,rfl,au,hb⟩;refine ⟨_,rfl,?_⟩;have af := aK (Kd.R_lower au (below_size (bM HB.out)));replace HB := aK (below_step (bM HB.out) hb);(try clear hb);(try clear au);obtain ⟨aU,aG,aM⟩ := Kd.R_slice af.out;subst aM))))
  go_loopg [12] k (fun kq a1 w' => ∃ (aa : Int),a1 = .int .i64 aa ∧ Aside0 (glob_ValidPath.l0 kq ab (ab.length : Int) aa = some r) ∧ Aside0 (kq ≤ k) ∧ Aside0 (Kd.R Kd.string 9 w' w.heap.size (fun _ => True) (.slice aU ab.length aG) ab) ∧ Aside0 (Below w.heap.size w w'))
  case atStart => exact ⟨(0),(by first|rfl|(simp;done)|(simp [*];done)),H',⟨Nat.le_refl _⟩,⟨rM af.out⟩,⟨bM HB.out⟩⟩
  case round =>
   clear H'
   try clear c2
   try clear aq
   try clear ar
   try clear p2
   obtain ⟨aa,rfl,HA,al,ac,HB⟩ := hrel
   cases gk with
  |zero => exact absurd HA.out (by simp [glob_ValidPath.l0])
  |succ k1 =>
    have H := HA.out
    clear HA
    simp only [glob_ValidPath.l0] at H
    by_cases c6 : aa < (ab.length : Int)
    ·rw [if_pos c6] at H
     have av := decide_eq_true c6
     clear c6
     obtain ⟨c7,H⟩ := iS H
     have aN := decide_eq_true c7
     clear c7
     obtain ⟨c8,H⟩ := iS H
     have aO := decide_eq_true c8
     clear c8
     have aP := aK H
     clear H
     have ai : 0 ≤ (aa : Int) := dA
     have aj : aa < (ab.length : Int) := dA
     obtain ⟨am,aQ,ag⟩ := Kd.at_string (Kd.R_reads' ac.out).2.2 aa ai aj
     cases aQ
     replace ai := eq_true ai
     replace aj := eq_true aj
     go_upto_region 6 with (fail)
     go_cut [31] (fun a2 wc => ∃ (kq : Nat) (ah : Bool),a2 = .bool ah ∧ Aside0 (glob_ValidPath.j1 kq (rdOf ByteArray.empty ab aa) ab (ab.length : Int) aa ah = some r) ∧ Aside0 (kq ≤ k1) ∧ Aside0 (Kd.R Kd.string 9 wc w.heap.size (fun _ => True) (.slice (some am) ab.length aG) ab) ∧ Aside0 (Below w.heap.size w wc))
     case first =>
      have H := aP.out
      clear aP
      by_cases c10 : (rdOf ByteArray.empty ab aa).toList = ([46] : List UInt8)
      ·rw [if_pos c10] at H
       have ae := beq_iff_eq.mpr c10
       have ak := bne_eq_false_iff_eq.mpr c10
       clear c10
       (first|rw [ae]|(simp only [i64_w,i32_w];rw [ae])|rw [ak]|skip)
       have H' := aK H
       clear H
       go_wp2
       go_meet
       case rel => exact ⟨_,(true),(by first|rfl|(simp;done)|(simp [*];done)),H',⟨by have := al.out;first|omega|exact Nat.le_refl _⟩,⟨rM ac.out⟩,⟨bM HB.out⟩⟩
      ·rw [if_neg c10] at H
       have ae := beq_eq_false_iff_ne.mpr c10
       have ak := bne_iff_ne.mpr c10
       (first|rw [ae]|(simp only [i64_w,i32_w];rw [ae])|rw [ak]|skip)
       by_cases an : (rdOf ByteArray.empty ab aa).toList = ([46,46] : List UInt8)
       ·rw [if_pos an] at H
        have aw := beq_iff_eq.mpr an
        have ax := bne_eq_false_iff_eq.mpr an
        clear an
        have H' := aK H
        clear H
        go_wp2
        go_meet
        case rel => exact ⟨_,(true),(by first|rfl|(simp;done)|(simp [*];done)),H',⟨by have := al.out;first|omega|exact Nat.le_refl _⟩,⟨rM ac.out⟩,⟨bM HB.out⟩⟩
       ·rw [if_neg an] at H
        have aw := beq_eq_false_iff_ne.mpr an
        have ax := bne_iff_ne.mpr an
        by_cases ap : ((rdOf ByteArray.empty ab aa).size : Int) < 1
        ·rw [if_pos ap] at H
         have ay := decide_eq_true ap
         have az : decide ((rdOf ByteArray.empty ab aa).size < 1) = true := decide_eq_true (by omega)
         clear ap
         have H' := aK H
         clear H
         go_wp2
         go_meet
         case rel => exact ⟨_,(true),(by first|rfl|(simp;done)|(simp [*];done)),H',⟨by have := al.out;first|omega|exact Nat.le_refl _⟩,⟨rM ac.out⟩,⟨bM HB.out⟩⟩
        ·rw [if_neg ap] at H
         have ay := decide_eq_false ap
         have az : decide ((rdOf ByteArray.empty ab aa).size < 1) = false := decide_eq_false (by omega)
         clear ap
         have H' := aK H
         clear H
         go_wp2
         go_meet
         case rel => exact ⟨_,(decide (((rdOf ByteArray.empty ab aa).size : Int) > 24)),(by first|rfl|(simp;done)|(simp [*];done)),H',⟨by have := al.out;first|omega|exact Nat.le_refl _⟩,⟨rM ac.out⟩,⟨bM HB.out⟩⟩
     case rest =>
      clear aP
      try clear p1
      try clear q1
      try clear hx1
      try clear p2
      try clear c6
      try clear av
      try clear c7
      try clear aN
      try clear c8
      try clear aO
      try clear ag
      try clear ai
      try clear p2
      try clear aj
      obtain ⟨kq,ah,rfl,HA,aH,ac,HB⟩ := hcut
      cases kq with
     |zero => exact absurd HA.out (by simp [glob_ValidPath.j1])
     |succ kj8 =>
       have H := HA.out
       clear HA
       simp only [glob_ValidPath.j1] at H
       by_cases aA : ah = true
       ·subst aA
        rw [if_pos rfl] at H
        obtain rfl := Option.some.inj H
        go_wp2
        first|go_ret|(rw [Exit.noGoto_ret];go_ret)
        exact ⟨by first|rfl|(simp [errW_none,errW_some] <;> rfl)|(simp [*,errW_none,errW_some] <;> rfl),bM HB.out⟩
       ·replace aA := Bool.eq_false_iff.mpr aA
        subst aA
        rw [if_neg (show ¬ (false = true) by decide)] at H
        have H' := aK H
        clear H
        go_wp2
        go_loopg [5] kj8 (fun kq v5 w' => ∃ (ad : Int),v5 = .int .i64 ad ∧ Aside0 (glob_ValidPath.l1 kq (rdOf ByteArray.empty ab aa) ad ab (ab.length : Int) aa = some r) ∧ Aside0 (kq ≤ kj8) ∧ Aside0 (Kd.R Kd.string 9 w' w.heap.size (fun _ => True) (.slice (some am) ab.length aG) ab) ∧ Aside0 (Below w.heap.size w w'))
        case atStart => exact ⟨(0),(by first|rfl|(simp;done)|(simp [*];done)),H',⟨Nat.le_refl _⟩,⟨rM ac.out⟩,⟨bM HB.out⟩⟩
        case round =>
         clear H'
         try clear p1
         try clear q1
         try clear hx1
         try clear p2
         try clear aA
         try clear ag
         try clear p1
         try clear ai
         try clear p2
         try clear q1
         try clear aj
         obtain ⟨ad,rfl,HA,aI,ac,HB⟩ := hrel
         cases gk with
        |zero => exact absurd HA.out (by simp [glob_ValidPath.l1])
        |succ k3 =>
          have H := HA.out
          clear HA
          simp only [glob_ValidPath.l1] at H
          by_cases ao : ad = ((rdOf ByteArray.empty ab aa).size : Int)
          ·rw [if_pos ao] at H
           have aB := beq_iff_eq.mpr ao
           have aC := bne_eq_false_iff_eq.mpr ao
           clear ao
           have H' := aK H
           clear H
           go_wp2
           go_roundg k3
           case measure => have := al.out;have := aH.out;have := aI.out;omega
           case rel => exact ⟨(wrap64 (aa + 1)),(by first|rfl|(simp;done)|(simp [*];done)),H',⟨by have := al.out;have := aH.out;have := aI.out;omega⟩,⟨rM ac.out⟩,⟨bM HB.out⟩⟩
          ·rw [if_neg ao] at H
           have aB := beq_eq_false_iff_ne.mpr ao
           have aC := bne_iff_ne.mpr ao
           obtain ⟨aV,H⟩ := iS H
           have aW := decide_eq_true aV
           clear aV
           obtain ⟨aX,H⟩ := iS H
           have aY := decide_eq_true aX
           clear aX
           replace H := Option.bind_eq_some_iff.mp H
           obtain ⟨aR,aD,H⟩ := H
           have aZ := aK aD
           clear aD
           by_cases aJ : aR = true
           ·subst aJ
            rw [if_pos rfl] at H
            have H' := aK H
            clear H
            have aE : 0 ≤ (ad : Int) := dA
            have aF : ad < ((rdOf ByteArray.empty ab aa).size : Int) := dA
            have aS := bt_at (rdOf ByteArray.empty ab aa) ad
            replace aE := eq_true aE
            replace aF := eq_true aF
            go_wp2_with (first|((with_reducible refine gate_callee (f := 91) rfl ?_);refine gL 41 Tryz.func91 #[.int .u8 (bt (rdOf ByteArray.empty ab aa) ad)] ?_;(with_reducible refine (glob_letter.calls (bt (rdOf ByteArray.empty ab aa) ad) true _ aZ.out).mono ?_);rintro e w' ⟨rfl,⟨nd,rfl⟩⟩;refine ⟨_,rfl,?_⟩))
            go_roundg k3
            case measure => have := al.out;have := aH.out;have := aI.out;omega
            case rel => exact ⟨(wrap64 (ad + 1)),(by first|rfl|(simp;done)|(simp [*];done)),H',⟨by have := al.out;have := aH.out;have := aI.out;omega⟩,⟨rM ac.out⟩,⟨bM HB.out⟩⟩
           ·replace aJ := Bool.eq_false_iff.mpr aJ
            subst aJ
            rw [if_neg (show ¬ (false = true) by decide)] at H
            obtain rfl := Option.some.inj H
            have aE : 0 ≤ (ad : Int) := dA
            have aF : ad < ((rdOf ByteArray.empty ab aa).size : Int) := dA
            have aS := bt_at (rdOf ByteArray.empty ab aa) ad
            replace aE := eq_true aE
            replace aF := eq_true aF
            go_wp2_with (first|((with_reducible refine gate_callee (f := 91) rfl ?_);refine gL 41 Tryz.func91 #[.int .u8 (bt (rdOf ByteArray.empty ab aa) ad)] ?_;(with_reducible refine (glob_letter.calls (bt (rdOf ByteArray.empty ab aa) ad) false _ aZ.out).mono ?_);rintro e w' ⟨rfl,⟨nd,rfl⟩⟩;refine ⟨_,rfl,?_⟩))
            first|go_ret|(rw [Exit.noGoto_ret];go_ret)
            exact ⟨by first|rfl|(simp [errW_none,errW_some] <;> rfl)|(simp [*,errW_none,errW_some] <;> rfl),bM HB.out⟩
    ·rw [if_neg c6] at H
     have av := decide_eq_false c6
     clear c6
     obtain rfl := Option.some.inj H
     go_wp2
     first|go_ret|(rw [Exit.noGoto_ret];go_ret)
     exact ⟨by first|rfl|(simp [errW_none,errW_some] <;> rfl)|(simp [*,errW_none,errW_some] <;> rfl),bM HB.out⟩

/-! ### stringslite_HasPrefix: function 106 -/
def stringslite_HasPrefix.f (a0 : ByteArray) (a1 : ByteArray) : Option (Bool) := if (a0.size : Int) ≥ (a1.size : Int) then (if 0 ≤ (a1.size : Int) then (if (a1.size : Int) ≤ (a0.size : Int) then (some ((a0.extract 0 ((a1.size : Int) : Int).toNat).toList == a1.toList)) else (none)) else (none)) else (some false)
theorem stringslite_HasPrefix.calls (a0 : ByteArray) (a1 : ByteArray) (r : Bool) (w : World) (h : stringslite_HasPrefix.f a0 a1 = some r) :
  Calls Tryz.prog 106 #[.string a0,.string a1] w fun e w' => e = .returned (.bool r) ∧ Drawn0 w w' := by
 unfold stringslite_HasPrefix.f at h
 have H := h
 clear h
 by_cases c3 : (a0.size : Int) ≥ (a1.size : Int)
 ·rw [if_pos c3] at H
  have aa := decide_eq_true c3
  have ab : decide (a1.size ≤ a0.size) = true := decide_eq_true (Int.ofNat_le.mp c3)
  clear c3
  obtain ⟨c4,H⟩ := iS H
  have ac := eq_true c4
  have ad := decide_eq_true c4
  clear c4
  obtain ⟨c5,H⟩ := iS H
  have ae := eq_true c5
  have af := decide_eq_true c5
  clear c5
  obtain rfl := Option.some.inj H
  go_enter Tryz.func106,Tryz.ntmps106
  go_wp2
  go_ret
  exact ⟨by first|rfl|(simp;done)|(simp [*];done),by repeat (first|exact Drawn0.refl _|apply Drawn0.step)⟩
 ·rw [if_neg c3] at H
  have aa := decide_eq_false c3
  have ab : decide (a1.size ≤ a0.size) = false := decide_eq_false (fun h => c3 (Int.ofNat_le.mpr h))
  clear c3
  obtain rfl := Option.some.inj H
  go_enter Tryz.func106,Tryz.ntmps106
  go_wp2
  go_ret
  exact ⟨by first|rfl|(simp;done)|(simp [*];done),by repeat (first|exact Drawn0.refl _|apply Drawn0.step)⟩

/-! ### strings_HasPrefix: function 92 -/
def strings_HasPrefix.f (a0 : ByteArray) (a1 : ByteArray) : Option (Bool) := (stringslite_HasPrefix.f a0 a1).bind fun aa => (some aa)
theorem strings_HasPrefix.calls (a0 : ByteArray) (a1 : ByteArray) (r : Bool) (w : World) (h : strings_HasPrefix.f a0 a1 = some r) :
  Calls Tryz.prog 92 #[.string a0,.string a1] w fun e w' => e = .returned (.bool r) ∧ Drawn0 w w' := by
 have H : ((stringslite_HasPrefix.f a0 a1).bind fun aa => (some aa)) = some r := h
 clear h
 replace H := Option.bind_eq_some_iff.mp H
 obtain ⟨aa,ab,H⟩ := H
 have A3 := aK ab
 clear ab
 obtain rfl := Option.some.inj H
 go_enter Tryz.func92,Tryz.ntmps92
 go_wp2_with (first|((with_reducible refine gate_callee (f := 106) rfl ?_);refine gL 7 Tryz.func106 #[.string a0,.string a1] ?_;(with_reducible refine (stringslite_HasPrefix.calls a0 a1 aa _ A3.out).mono ?_);rintro e w' ⟨rfl,⟨nd,rfl⟩⟩;refine ⟨_,rfl,?_⟩))
 go_ret
 exact ⟨by first|rfl|(simp;done)|(simp [*];done),by repeat (first|exact Drawn0.refl _|apply Drawn0.step)⟩

/-! ### glob_Under: function 66 -/
def glob_Under.f (a0 : ByteArray) (a1 : ByteArray) : Option (Bool) := if a1.toList = ([] : List UInt8) then (some true) else (if a1.size + 1 ≤ 9223372036854775807 then ((strings_HasPrefix.f a0 (a1 ++ (⟨#[47]⟩ : ByteArray))).bind fun aa => (some aa)) else (none))
theorem glob_Under.calls (a0 : ByteArray) (a1 : ByteArray) (r : Bool) (w : World) (h : glob_Under.f a0 a1 = some r) :
  Calls Tryz.prog 66 #[.string a0,.string a1] w fun e w' => e = .returned (.bool r) ∧ Drawn0 w w' := by
 have H : (if a1.toList = ([] : List UInt8) then (some true) else (if a1.size + 1 ≤ 9223372036854775807 then ((strings_HasPrefix.f a0 (a1 ++ (⟨#[47]⟩ : ByteArray))).bind fun aa => (some aa)) else (none))) = some r := h
 clear h
 by_cases c3 : a1.toList = ([] : List UInt8)
 ·rw [if_pos c3] at H
  have ab := beq_iff_eq.mpr c3
  have ac := bne_eq_false_iff_eq.mpr c3
  clear c3
  obtain rfl := Option.some.inj H
  go_enter Tryz.func66,Tryz.ntmps66
  go_wp2
  go_ret
  exact ⟨by first|rfl|(simp;done)|(simp [*];done),by repeat (first|exact Drawn0.refl _|apply Drawn0.step)⟩
 ·rw [if_neg c3] at H
  have ab := beq_eq_false_iff_ne.mpr c3
  have ac := bne_iff_ne.mpr c3
  by_cases c4 : a1.size + 1 ≤ 9223372036854775807
  ·rw [if_pos c4] at H
   have ae := eq_true c4
   have af := decide_eq_true c4
   try have ag : (9223372036854775807 < a1.size + 1) = False := eq_false (Nat.not_lt.2 c4)
   replace H := Option.bind_eq_some_iff.mp H
   obtain ⟨aa,ad,H⟩ := H
   have A5 := aK ad
   clear ad
   obtain rfl := Option.some.inj H
   go_enter Tryz.func66,Tryz.ntmps66
   go_wp2_with (first|(go_at_call 92;(with_reducible refine (strings_HasPrefix.calls a0 (a1 ++ (⟨#[47]⟩ : ByteArray)) aa _ A5.out).mono ?_);rintro e w' ⟨rfl,⟨nd,rfl⟩⟩))
   go_ret
   exact ⟨by first|rfl|(simp;done)|(simp [*];done),by repeat (first|exact Drawn0.refl _|apply Drawn0.step)⟩
  ·rw [if_neg c4] at H
   exact absurd H (by simp)
end Go.Proofs.YtgadbpljlpclnaaGreatDoor.H
