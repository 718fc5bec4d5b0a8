import Derived.Test.YtobdkgoapcbipaaGreatDoorJx0
namespace Go.Proofs.YtobdkgoapcbipaaGreatDoor.J
open Go.RowKit Go.Proofs.YtobdkgoapcbipaaGreatDoorW.PrintWords Go.Proofs.YtobdkgoapcbipaaGreatDoorW.PrintLast Go.Proofs.YtobdkgoapcbipaaGreatDoorW.PrintMore
attribute [local go_sem] max2_int min2_int max_two min_two max_three min_three max_four min_four
set_option linter.unusedVariables false
set_option linter.unusedSimpArgs false

/-! ### l43_contains: function 31 -/
mutual
def l43_contains.l0 : Nat → List (S36) → ByteArray → ByteArray → Int → Int → Option (Bool)
|0,_,_,_,_,_ => none
|k + 1,x0,x1,x2,x3,x9 => if x9 < (x0.length : Int) then (l43_contains.j1 k x0 x1 x2 x3 x9 (decide (x3 > 0))) else (l43_contains.j1 k x0 x1 x2 x3 x9 false)
def l43_contains.j1 : Nat → List (S36) → ByteArray → ByteArray → Int → Int → Bool → Option (Bool)
|0,_,_,_,_,_,_ => none
|k + 1,x0,x1,x2,x3,x9,aa => if aa = true then (if 0 ≤ x9 then (if x9 < (x0.length : Int) then (if ((rd_T36 x0 x9).f0).toList = x1.toList then (l43_contains.l1 k x0 x1 x2 x3 x9 0) else (l43_contains.l0 k x0 x1 x2 x3 (wrap64 (x9 + 1)))) else (none)) else (none)) else (some false)
def l43_contains.l1 : Nat → List (S36) → ByteArray → ByteArray → Int → Int → Int → Option (Bool)
|0,_,_,_,_,_,_ => none
|k + 1,x0,x1,x2,x3,x9,aa => if 0 ≤ x9 then (if x9 < (x0.length : Int) then (if aa < (((rd_T36 x0 x9).f2).length : Int) then (if 0 ≤ aa then ((l43_contains.f k x0 (rdOf ByteArray.empty ((rd_T36 x0 x9).f2) aa) x2 (wrap64 (x3 - 1))).bind fun ab => (if ab = true then (some true) else (l43_contains.l1 k x0 x1 x2 x3 x9 (wrap64 (aa + 1))))) else (none)) else (l43_contains.l0 k x0 x1 x2 x3 (wrap64 (x9 + 1)))) else (none)) else (none)
def l43_contains.f : Nat → List (S36) → ByteArray → ByteArray → Int → Option (Bool)
|0,_,_,_,_ => none
|k + 1,l0,a1,a2,a3 => if a1.toList = a2.toList then (some true) else (l43_contains.l0 k l0 a1 a2 a3 0)
end
theorem l43_contains.mono_l : ∀ k, (∀ y0 y1 y2 y3, LeO (l43_contains.f k y0 y1 y2 y3) (l43_contains.f (k + 1) y0 y1 y2 y3)) ∧ (∀ y0 y1 y2 y3 y4, LeO (l43_contains.l0 k y0 y1 y2 y3 y4) (l43_contains.l0 (k + 1) y0 y1 y2 y3 y4)) ∧ (∀ y0 y1 y2 y3 y4 y5, LeO (l43_contains.j1 k y0 y1 y2 y3 y4 y5) (l43_contains.j1 (k + 1) y0 y1 y2 y3 y4 y5)) ∧ (∀ y0 y1 y2 y3 y4 y5, LeO (l43_contains.l1 k y0 y1 y2 y3 y4 y5) (l43_contains.l1 (k + 1) y0 y1 y2 y3 y4 y5))
|0 => ⟨fun _ _ _ _ r h => by simp [l43_contains.f] at h,fun _ _ _ _ _ r h => by simp [l43_contains.l0] at h,fun _ _ _ _ _ _ r h => by simp [l43_contains.j1] at h,fun _ _ _ _ _ _ r h => by simp [l43_contains.l1] at h⟩
|k + 1 => by
  obtain ⟨ih0,ih1,ih2,ih3⟩ := l43_contains.mono_l k
  refine ⟨?_,?_,?_,?_⟩
  ·intro y0 y1 y2 y3
   unfold l43_contains.f
   repeat' (with_reducible first|exact ih1 _ _ _ _ _|exact LeO.refl _|exact LeO.none _|refine LeO.ite ?_ ?_|refine LeO.bind ?_ (fun _ => ?_))
  ·intro y0 y1 y2 y3 y4
   unfold l43_contains.l0
   repeat' (with_reducible first|exact ih2 _ _ _ _ _ _|exact LeO.refl _|exact LeO.none _|refine LeO.ite ?_ ?_|refine LeO.bind ?_ (fun _ => ?_))
  ·intro y0 y1 y2 y3 y4 y5
   unfold l43_contains.j1
   repeat' (with_reducible first|exact ih1 _ _ _ _ _|exact ih3 _ _ _ _ _ _|exact LeO.refl _|exact LeO.none _|refine LeO.ite ?_ ?_|refine LeO.bind ?_ (fun _ => ?_))
  ·intro y0 y1 y2 y3 y4 y5
   unfold l43_contains.l1
   repeat' (with_reducible first|exact ih0 _ _ _ _|exact ih1 _ _ _ _ _|exact ih3 _ _ _ _ _ _|exact LeO.refl _|exact LeO.none _|refine LeO.ite ?_ ?_|refine LeO.bind ?_ (fun _ => ?_))
theorem l43_contains.mono : ∀ a0 a1 a2 a3 k, LeO (l43_contains.f k a0 a1 a2 a3) (l43_contains.f (k + 1) a0 a1 a2 a3) := by
 intro a0 a1 a2 a3 k
 obtain ⟨ih0,ih1,ih2,ih3⟩ := l43_contains.mono_l k
 exact ih0 a0 a1 a2 a3
set_option maxHeartbeats 4000000 in
set_option maxRecDepth 100000 in
theorem l43_contains.calls (k : Nat) : ∀ (A0 : Option Addr) (c0 : Nat) (l0 : List (S36)) (a1 : ByteArray) (a2 : ByteArray) (a3 : Int) (r : Bool) (w : World) (bF : Kd.C k36 w A0 l0.length l0) (bH : l0.length ≤ c0) (h : l43_contains.f k l0 a1 a2 a3 = some r),
  Calls Tryz.prog 31 #[.slice A0 l0.length c0,.string a1,.string a2,.int .i64 a3] w fun e w' => e = .returned (.bool r) ∧ Drawn0 w w' := by
 induction k using Nat.strongRecOn with
|_ k ih =>
 intro A0 c0 l0 a1 a2 a3 r w bF bH h
 cases k with
|zero => exact absurd h (by simp [l43_contains.f])
|succ k =>
 simp only [l43_contains.f] at h
 have aZ := aK bF
 have bL := aK bH
 clear bF bH
 have H : (if a1.toList = a2.toList then (some true) else (l43_contains.l0 k l0 a1 a2 a3 0)) = some r := h
 clear h
 by_cases c5 : a1.toList = a2.toList
 ·rw [if_pos c5] at H
  have bv := beq_iff_eq.mpr c5
  have bx := bne_eq_false_iff_eq.mpr c5
  clear c5
  obtain rfl := Option.some.inj H
  go_enter Tryz.func31,Tryz.ntmps31
  go_wp2
  go_ret
  exact ⟨by first|rfl|(simp;done)|(simp [*];done),by repeat (first|exact Drawn0.refl _|apply Drawn0.step)⟩
 ·rw [if_neg c5] at H
  have bv := beq_eq_false_iff_ne.mpr c5
  have bx := bne_iff_ne.mpr c5
  have H' := aK H
  clear H
  go_enter Tryz.func31,Tryz.ntmps31
  go_wp2
  go_loopg [9] k (fun kq v9 w' => ∃ (aa : Int),v9 = .int .i64 aa ∧ Aside0 (l43_contains.l0 kq l0 a1 a2 a3 aa = some r) ∧ Aside0 (kq ≤ k) ∧ Drawn0 w w')
  case atStart => exact ⟨(0),(by first|rfl|(simp;done)|(simp [*];done)),H',⟨Nat.le_refl _⟩,by repeat (first|exact Drawn0.refl _|apply Drawn0.step)⟩
  case round =>
   clear H'
   try clear p2
   try clear c5
   try clear bv
   try clear bx
   obtain ⟨aa,rfl,HA,aY,⟨m1,rfl⟩⟩ := hrel
   cases gk with
  |zero => exact absurd HA.out (by simp [l43_contains.l0])
  |succ k1 =>
    have H := HA.out
    clear HA
    simp only [l43_contains.l0] at H
    have bI := aK H
    clear H
    go_upto_region 4 with (fail)
    go_cut [21] (fun bU wc => ∃ (kq : Nat) (aF : Bool),bU = .bool aF ∧ Aside0 (l43_contains.j1 kq l0 a1 a2 a3 aa aF = some r) ∧ Aside0 (kq ≤ k1) ∧ Drawn0 w wc)
    case first =>
     have H := bI.out
     clear bI
     by_cases c7 : aa < (l0.length : Int)
     ·rw [if_pos c7] at H
      have aP := decide_eq_true c7
      clear c7
      (first|rw [aP]|(simp only [i64_w,i32_w];rw [aP])|rw [c7b1]|skip)
      have H' := aK H
      clear H
      go_wp2
      go_meet
      case rel => exact ⟨_,(decide (a3 > 0)),(by first|rfl|(simp;done)|(simp [*];done)),H',⟨by have := aY.out;first|omega|exact Nat.le_refl _⟩,by repeat (first|exact Drawn0.refl _|apply Drawn0.step)⟩
     ·rw [if_neg c7] at H
      have aP := decide_eq_false c7
      clear c7
      (first|rw [aP]|(simp only [i64_w,i32_w];rw [aP])|rw [c7b1]|skip)
      have H' := aK H
      clear H
      go_wp2
      go_meet
      case rel => exact ⟨_,(false),(by first|rfl|(simp;done)|(simp [*];done)),H',⟨by have := aY.out;first|omega|exact Nat.le_refl _⟩,by repeat (first|exact Drawn0.refl _|apply Drawn0.step)⟩
    case rest =>
     clear bI
     try clear p2
     try clear p2
     obtain ⟨kq,aF,rfl,HA,bc,⟨bW,rfl⟩⟩ := hcut
     cases kq with
    |zero => exact absurd HA.out (by simp [l43_contains.j1])
    |succ kj5 =>
      have H := HA.out
      clear HA
      simp only [l43_contains.j1] at H
      by_cases c8 : aF = true
      ·subst c8
       rw [if_pos rfl] at H
       obtain ⟨c9,H⟩ := iS H
       have bJ := decide_eq_true c9
       clear c9
       obtain ⟨c10,H⟩ := iS H
       have bz := decide_eq_true c10
       clear c10
       by_cases bd : ((rd_T36 l0 aa).f0).toList = a1.toList
       ·rw [if_pos bd] at H
        have be := beq_iff_eq.mpr bd
        have bf := bne_eq_false_iff_eq.mpr bd
        clear bd
        have H' := aK H
        clear H
        have ay : 0 ≤ (aa : Int) := dA
        have az : aa < (l0.length : Int) := dA
        obtain ⟨ao,bg,bh,bi,bj,bk,aG,aH,aI,ag,ah,ai,aj⟩ := at_T36 aZ.out aa ay az
        cases bk
        have a0 := aK ah
        have a4 := aK ag
        clear ah ag
        have a5 := aK aj
        have a6 := aK ai
        clear aj ai
        replace ay := eq_true ay
        replace az := eq_true az
        go_wp2
        go_loopg [10] kj5 (fun kq bV w' => ∃ (ab : Int),bV = .int .i64 ab ∧ Aside0 (l43_contains.l1 kq l0 a1 a2 a3 aa ab = some r) ∧ Aside0 (kq ≤ kj5) ∧ Drawn0 w w')
        case atStart => exact ⟨(0),(by first|rfl|(simp;done)|(simp [*];done)),H',⟨Nat.le_refl _⟩,by repeat (first|exact Drawn0.refl _|apply Drawn0.step)⟩
        case round =>
         clear H'
         try clear p2
         try clear p5
         try clear q5
         try clear hx5
         try clear p6
         try clear c8
         try clear c9
         try clear bJ
         try clear c10
         try clear bz
         try clear bd
         try clear be
         try clear bf
         try clear aG
         try clear aH
         try clear aI
         try clear p2
         try clear ay
         try clear az
         obtain ⟨ab,rfl,HA,bs,⟨m3,rfl⟩⟩ := hrel
         cases gk with
        |zero => exact absurd HA.out (by simp [l43_contains.l1])
        |succ k3 =>
          have H := HA.out
          clear HA
          simp only [l43_contains.l1] at H
          obtain ⟨bN,H⟩ := iS H
          have bO := decide_eq_true bN
          clear bN
          obtain ⟨bP,H⟩ := iS H
          have bQ := decide_eq_true bP
          clear bP
          by_cases bu : ab < (((rd_T36 l0 aa).f2).length : Int)
          ·rw [if_pos bu] at H
           have bB := decide_eq_true bu
           clear bu
           obtain ⟨bR,H⟩ := iS H
           have bS := decide_eq_true bR
           clear bR
           replace H := Option.bind_eq_some_iff.mp H
           obtain ⟨bK,bC,H⟩ := H
           have bT := aK bC
           clear bC
           by_cases bE : bK = true
           ·subst bE
            rw [if_pos rfl] at H
            obtain rfl := Option.some.inj H
            have ar : 0 ≤ (aa : Int) := dA
            have au : aa < (l0.length : Int) := dA
            obtain ⟨aA,aQ,aR,aS,aT,aU,aJ,ap,aq,ac,ad,ae,af⟩ := at_T36 aZ.out aa ar au
            obtain rfl : ao = aA := (by injection aU)
            have aL := aK ad
            have aM := aK ac
            clear ad ac
            have aN := aK af
            have aO := aK ae
            clear af ae
            replace ar := eq_true ar
            replace au := eq_true au
            have aB : 0 ≤ (aa : Int) := dA
            have aC : aa < (l0.length : Int) := dA
            obtain ⟨aV,bm,bn,bo,bp,bq,a7,av,aw,ak,al,am,an⟩ := at_T36 aZ.out aa aB aC
            obtain rfl : ao = aV := (by injection bq)
            have a8 := aK al
            have a9 := aK ak
            clear al ak
            have ax := aK an
            have ba := aK am
            clear an am
            replace aB := eq_true aB
            replace aC := eq_true aC
            have ea_ := Option.some.inj (ap.symm.trans av)
            injection ea_ with ea_ en_ ec_
            subst ea_
            subst ec_
            clear en_
            have ea_ := Option.some.inj (aq.symm.trans aw)
            injection ea_ with ea_ en_ ec_
            subst ea_
            subst ec_
            clear en_
            have aD : 0 ≤ (ab : Int) := dA
            have aE : ab < (((rd_T36 l0 aa).f2).length : Int) := dA
            obtain ⟨bD,br,bb⟩ := Kd.at_string ax.out ab aD aE
            cases br
            replace aD := eq_true aD
            replace aE := eq_true aE
            go_wp2_with (first|((with_reducible refine gate_callee (f := 31) rfl ?_);refine gL 53 Tryz.func31 #[.slice (some ao) l0.length c0,.string (rdOf ByteArray.empty ((rd_T36 l0 aa).f2) ab),.string a2,.int .i64 (wrap64 (a3 - 1))] ?_;(with_reducible refine (ih k3 (by have := aY.out;have := bc.out;have := bs.out;omega) _ _ l0 (rdOf ByteArray.empty ((rd_T36 l0 aa).f2) ab) a2 (wrap64 (a3 - 1)) true _ ?aW ?aX bT.out).mono ?_);(case aW => exact cM aZ.out);(case aX => exact bL.out);rintro e w' ⟨rfl,⟨nd,rfl⟩⟩;refine ⟨_,rfl,?_⟩))
            go_ret
            exact ⟨by first|rfl|(simp;done)|(simp [*];done),by repeat (first|exact Drawn0.refl _|apply Drawn0.step)⟩
           ·replace bE := Bool.eq_false_iff.mpr bE
            subst bE
            rw [if_neg (show ¬ (false = true) by decide)] at H
            have H' := aK H
            clear H
            have ar : 0 ≤ (aa : Int) := dA
            have au : aa < (l0.length : Int) := dA
            obtain ⟨aA,aQ,aR,aS,aT,aU,aJ,ap,aq,ac,ad,ae,af⟩ := at_T36 aZ.out aa ar au
            obtain rfl : ao = aA := (by injection aU)
            have aL := aK ad
            have aM := aK ac
            clear ad ac
            have aN := aK af
            have aO := aK ae
            clear af ae
            replace ar := eq_true ar
            replace au := eq_true au
            have aB : 0 ≤ (aa : Int) := dA
            have aC : aa < (l0.length : Int) := dA
            obtain ⟨aV,bm,bn,bo,bp,bq,a7,av,aw,ak,al,am,an⟩ := at_T36 aZ.out aa aB aC
            obtain rfl : ao = aV := (by injection bq)
            have a8 := aK al
            have a9 := aK ak
            clear al ak
            have ax := aK an
            have ba := aK am
            clear an am
            replace aB := eq_true aB
            replace aC := eq_true aC
            have ea_ := Option.some.inj (ap.symm.trans av)
            injection ea_ with ea_ en_ ec_
            subst ea_
            subst ec_
            clear en_
            have ea_ := Option.some.inj (aq.symm.trans aw)
            injection ea_ with ea_ en_ ec_
            subst ea_
            subst ec_
            clear en_
            have aD : 0 ≤ (ab : Int) := dA
            have aE : ab < (((rd_T36 l0 aa).f2).length : Int) := dA
            obtain ⟨bD,br,bb⟩ := Kd.at_string ax.out ab aD aE
            cases br
            replace aD := eq_true aD
            replace aE := eq_true aE
            go_wp2_with (first|((with_reducible refine gate_callee (f := 31) rfl ?_);refine gL 53 Tryz.func31 #[.slice (some ao) l0.length c0,.string (rdOf ByteArray.empty ((rd_T36 l0 aa).f2) ab),.string a2,.int .i64 (wrap64 (a3 - 1))] ?_;(with_reducible refine (ih k3 (by have := aY.out;have := bc.out;have := bs.out;omega) _ _ l0 (rdOf ByteArray.empty ((rd_T36 l0 aa).f2) ab) a2 (wrap64 (a3 - 1)) false _ ?aW ?aX bT.out).mono ?_);(case aW => exact cM aZ.out);(case aX => exact bL.out);rintro e w' ⟨rfl,⟨nd,rfl⟩⟩;refine ⟨_,rfl,?_⟩))
            go_roundg k3
            case measure => have := aY.out;have := bc.out;have := bs.out;omega
            case rel => exact ⟨(wrap64 (ab + 1)),(by first|rfl|(simp;done)|(simp [*];done)),H',⟨by have := aY.out;have := bc.out;have := bs.out;omega⟩,by repeat (first|exact Drawn0.refl _|apply Drawn0.step)⟩
          ·rw [if_neg bu] at H
           have bB := decide_eq_false bu
           clear bu
           have H' := aK H
           clear H
           have ar : 0 ≤ (aa : Int) := dA
           have au : aa < (l0.length : Int) := dA
           obtain ⟨aA,aQ,aR,aS,aT,aU,aJ,ap,aq,ac,ad,ae,af⟩ := at_T36 aZ.out aa ar au
           obtain rfl : ao = aA := (by injection aU)
           have aL := aK ad
           have aM := aK ac
           clear ad ac
           have aN := aK af
           have aO := aK ae
           clear af ae
           replace ar := eq_true ar
           replace au := eq_true au
           go_wp2
           go_roundg k3
           case measure => have := aY.out;have := bc.out;have := bs.out;omega
           case rel => exact ⟨(wrap64 (aa + 1)),(by first|rfl|(simp;done)|(simp [*];done)),H',⟨by have := aY.out;have := bc.out;have := bs.out;omega⟩,by repeat (first|exact Drawn0.refl _|apply Drawn0.step)⟩
       ·rw [if_neg bd] at H
        have be := beq_eq_false_iff_ne.mpr bd
        have bf := bne_iff_ne.mpr bd
        have H' := aK H
        clear H
        have ay : 0 ≤ (aa : Int) := dA
        have az : aa < (l0.length : Int) := dA
        obtain ⟨ao,bg,bh,bi,bj,bk,aG,aH,aI,ag,ah,ai,aj⟩ := at_T36 aZ.out aa ay az
        cases bk
        have a0 := aK ah
        have a4 := aK ag
        clear ah ag
        have a5 := aK aj
        have a6 := aK ai
        clear aj ai
        replace ay := eq_true ay
        replace az := eq_true az
        go_wp2
        go_roundg kj5
        case measure => have := aY.out;have := bc.out;omega
        case rel => exact ⟨(wrap64 (aa + 1)),(by first|rfl|(simp;done)|(simp [*];done)),H',⟨by have := aY.out;have := bc.out;omega⟩,by repeat (first|exact Drawn0.refl _|apply Drawn0.step)⟩
      ·replace c8 := Bool.eq_false_iff.mpr c8
       subst c8
       rw [if_neg (show ¬ (false = true) by decide)] at H
       obtain rfl := Option.some.inj H
       go_wp2
       go_ret
       exact ⟨by first|rfl|(simp;done)|(simp [*];done),by repeat (first|exact Drawn0.refl _|apply Drawn0.step)⟩

end Go.Proofs.YtobdkgoapcbipaaGreatDoor.J
