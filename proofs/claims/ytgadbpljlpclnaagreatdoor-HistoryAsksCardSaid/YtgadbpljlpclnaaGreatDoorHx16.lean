import Derived.Test.YtgadbpljlpclnaaGreatDoorHx0
namespace Go.Proofs.YtgadbpljlpclnaaGreatDoor.H
open Go.RowKit Go.Proofs.YtgadbpljlpclnaaGreatDoorW.PrintWords Go.Proofs.YtgadbpljlpclnaaGreatDoorW.PrintLast Go.Proofs.YtgadbpljlpclnaaGreatDoorW.PrintMore
set_option maxHeartbeats 4000000
set_option maxRecDepth 100000
attribute [local go_sem] max2_int min2_int max_two min_two max_three min_three max_four min_four
set_option linter.unusedVariables false
set_option linter.unusedSimpArgs false

/-! ### l26_few: function 11 -/
mutual
def l26_few.l0 : Nat → List (S28) → Int → Option (Bool)
|0,_,_ => none
|k + 1,x0,x3 => if x3 < (x0.length : Int) then (if 0 ≤ x3 then (if (((rd_T28 x0 x3).f1).length : Int) > 20 then (l26_few.j1 k x0 x3 true) else (l26_few.j1 k x0 x3 (decide ((((rd_T28 x0 x3).f2).length : Int) > 20)))) else (none)) else (some true)
def l26_few.j1 : Nat → List (S28) → Int → Bool → Option (Bool)
|0,_,_,_ => none
|k + 1,x0,x3,aa => if aa = true then (some false) else (l26_few.l1 k x0 x3 0)
def l26_few.l1 : Nat → List (S28) → Int → Int → Option (Bool)
|0,_,_,_ => none
|k + 1,x0,x3,x4 => if 0 ≤ x3 then (if x3 < (x0.length : Int) then (if x4 < (((rd_T28 x0 x3).f2).length : Int) then (if 0 ≤ x4 then (if (((rd_T53 ((rd_T28 x0 x3).f2) x4).f0).size : Int) > 100 then (some false) else (l26_few.l1 k x0 x3 (wrap64 (x4 + 1)))) else (none)) else (l26_few.l0 k x0 (wrap64 (x3 + 1)))) else (none)) else (none)
end
def l26_few.f (k : Nat) (l0 : List (S28)) : Option (Bool) := if (l0.length : Int) > 70 then (some false) else (l26_few.l0 k l0 0)
theorem l26_few.mono_l : ∀ k, (∀ y0 y1, LeO (l26_few.l0 k y0 y1) (l26_few.l0 (k + 1) y0 y1)) ∧ (∀ y0 y1 y2, LeO (l26_few.j1 k y0 y1 y2) (l26_few.j1 (k + 1) y0 y1 y2)) ∧ (∀ y0 y1 y2, LeO (l26_few.l1 k y0 y1 y2) (l26_few.l1 (k + 1) y0 y1 y2))
|0 => ⟨fun _ _ r h => by simp [l26_few.l0] at h,fun _ _ _ r h => by simp [l26_few.j1] at h,fun _ _ _ r h => by simp [l26_few.l1] at h⟩
|k + 1 => by
  obtain ⟨ih0,ih1,ih2⟩ := l26_few.mono_l k
  refine ⟨?_,?_,?_⟩
  ·intro y0 y1
   unfold l26_few.l0
   repeat' (with_reducible first|exact ih1 _ _ _|exact LeO.refl _|exact LeO.none _|refine LeO.ite ?_ ?_|refine LeO.bind ?_ (fun _ => ?_))
  ·intro y0 y1 y2
   unfold l26_few.j1
   repeat' (with_reducible first|exact ih2 _ _ _|exact LeO.refl _|exact LeO.none _|refine LeO.ite ?_ ?_|refine LeO.bind ?_ (fun _ => ?_))
  ·intro y0 y1 y2
   unfold l26_few.l1
   repeat' (with_reducible first|exact ih0 _ _|exact ih2 _ _ _|exact LeO.refl _|exact LeO.none _|refine LeO.ite ?_ ?_|refine LeO.bind ?_ (fun _ => ?_))
theorem l26_few.mono : ∀ a0 k, LeO (l26_few.f k a0) (l26_few.f (k + 1) a0) := by
 intro a0 k
 obtain ⟨ih0,ih1,ih2⟩ := l26_few.mono_l k
 unfold l26_few.f
 repeat' (with_reducible first|exact ih0 _ _|exact ih1 _ _ _|exact ih2 _ _ _|exact LeO.refl _|exact LeO.none _|refine LeO.ite ?_ ?_|refine LeO.bind ?_ (fun _ => ?_))
theorem l26_few.calls (k : Nat) (A0 : Option Addr) (c0 : Nat) (l0 : List (S28)) (r : Bool) (w : World) (b5 : Kd.C k28 w A0 l0.length l0) (b6 : l0.length ≤ c0) (h : l26_few.f k l0 = some r) :
  Calls Tryz.prog 11 #[.slice A0 l0.length c0] w fun e w' => e = .returned (.bool r) ∧ Drawn0 w w' := by
 have bm := aK b5
 have cc := aK b6
 clear b5 b6
 have H : (if (l0.length : Int) > 70 then (some false) else (l26_few.l0 k l0 0)) = some r := h
 clear h
 by_cases c2 : (l0.length : Int) > 70
 ·rw [if_pos c2] at H
  have bF := decide_eq_true c2
  have bH : decide (70 < l0.length) = true := decide_eq_true (by omega)
  clear c2
  obtain rfl := Option.some.inj H
  go_enter Tryz.func11,Tryz.ntmps11
  go_wp2
  go_ret
  exact ⟨by first|rfl|(simp;done)|(simp [*];done),by repeat (first|exact Drawn0.refl _|apply Drawn0.step)⟩
 ·rw [if_neg c2] at H
  have bF := decide_eq_false c2
  have bH : decide (70 < l0.length) = false := decide_eq_false (by omega)
  clear c2
  have H' := aK H
  clear H
  go_enter Tryz.func11,Tryz.ntmps11
  go_wp2
  go_loopg [3] k (fun kq v3 w' => ∃ (aa : Int),v3 = .int .i64 aa ∧ Aside0 (l26_few.l0 kq l0 aa = some r) ∧ Aside0 (kq ≤ k) ∧ Drawn0 w w')
  case atStart => exact ⟨(0),(by first|rfl|(simp;done)|(simp [*];done)),H',⟨Nat.le_refl _⟩,by repeat (first|exact Drawn0.refl _|apply Drawn0.step)⟩
  case round =>
   clear H'
   try clear c2
   try clear bF
   try clear bH
   try clear p2
   obtain ⟨aa,rfl,HA,bD,⟨m1,rfl⟩⟩ := hrel
   cases gk with
  |zero => exact absurd HA.out (by simp [l26_few.l0])
  |succ k1 =>
    have H := HA.out
    clear HA
    simp only [l26_few.l0] at H
    by_cases c3 : aa < (l0.length : Int)
    ·rw [if_pos c3] at H
     have bI := decide_eq_true c3
     clear c3
     have bW := aK H
     clear H
     go_upto_region 6 with (fail)
     go_cut [29] (fun b9 wc => ∃ (kq : Nat) (aL : Bool),b9 = .bool aL ∧ Aside0 (l26_few.j1 kq l0 aa aL = some r) ∧ Aside0 (kq ≤ k1) ∧ Drawn0 w wc)
     case first =>
      have H := bW.out
      clear bW
      obtain ⟨c5,H⟩ := iS H
      have bJ := decide_eq_true c5
      clear c5
      (first|rw [bJ]|(simp only [i64_w,i32_w];rw [bJ])|rw [c5b1]|skip)
      by_cases c6 : (((rd_T28 l0 aa).f1).length : Int) > 20
      ·rw [if_pos c6] at H
       have bX := decide_eq_true c6
       have bY : decide (20 < ((rd_T28 l0 aa).f1).length) = true := decide_eq_true (by omega)
       clear c6
       have H' := aK H
       clear H
       have aw : 0 ≤ (aa : Int) := dA
       have ax : aa < (l0.length : Int) := dA
       obtain ⟨bn,bo,bp,bq,br,bs,ay,ao,ap,az,aA,af,ag,ah,ai⟩ := at_T28 bm.out aa aw ax
       cases bs
       have a9 := aK ag
       have ba := aK af
       clear ag af
       have bb := aK ai
       have bc := aK ah
       clear ai ah
       replace aw := eq_true aw
       replace ax := eq_true ax
       go_wp2
       go_meet
       case rel => exact ⟨_,(true),(by first|rfl|(simp;done)|(simp [*];done)),H',⟨by have := bD.out;first|omega|exact Nat.le_refl _⟩,by repeat (first|exact Drawn0.refl _|apply Drawn0.step)⟩
      ·rw [if_neg c6] at H
       have bX := decide_eq_false c6
       have bY : decide (20 < ((rd_T28 l0 aa).f1).length) = false := decide_eq_false (by omega)
       clear c6
       have H' := aK H
       clear H
       have aw : 0 ≤ (aa : Int) := dA
       have ax : aa < (l0.length : Int) := dA
       obtain ⟨bn,bo,bp,bq,br,bs,ay,ao,ap,az,aA,af,ag,ah,ai⟩ := at_T28 bm.out aa aw ax
       cases bs
       have a9 := aK ag
       have ba := aK af
       clear ag af
       have bb := aK ai
       have bc := aK ah
       clear ai ah
       replace aw := eq_true aw
       replace ax := eq_true ax
       have a1 : 0 ≤ (aa : Int) := dA
       have a2 : aa < (l0.length : Int) := dA
       obtain ⟨bK,bZ,b1,b2,b3,b4,aM,aB,aC,aN,aO,aP,aQ,aR,aS⟩ := at_T28 bm.out aa a1 a2
       obtain rfl : bn = bK := (by injection b4)
       have bQ := aK aQ
       have bR := aK aP
       clear aQ aP
       have bS := aK aS
       have bT := aK aR
       clear aS aR
       replace a1 := eq_true a1
       replace a2 := eq_true a2
       have ea_ := Option.some.inj (ao.symm.trans aB)
       injection ea_ with ea_ en_ ec_
       subst ea_
       subst ec_
       clear en_
       have ea_ := Option.some.inj (ap.symm.trans aC)
       injection ea_ with ea_ en_ ec_
       subst ea_
       subst ec_
       clear en_
       go_wp2
       go_meet
       case rel => exact ⟨_,(decide ((((rd_T28 l0 aa).f2).length : Int) > 20)),(by first|rfl|(simp;done)|(simp [*];done)),H',⟨by have := bD.out;first|omega|exact Nat.le_refl _⟩,by repeat (first|exact Drawn0.refl _|apply Drawn0.step)⟩
     case rest =>
      clear bW
      try clear p2
      try clear c3
      try clear bI
      try clear p3
      try clear q3
      try clear hx3
      try clear ay
      try clear ao
      try clear ap
      try clear az
      try clear aA
      try clear aM
      try clear aB
      try clear aC
      try clear aN
      try clear aO
      try clear p2
      try clear aw
      try clear a1
      try clear ax
      try clear a2
      obtain ⟨kq,aL,rfl,HA,bU,⟨cd,rfl⟩⟩ := hcut
      cases kq with
     |zero => exact absurd HA.out (by simp [l26_few.j1])
     |succ kj3 =>
       have H := HA.out
       clear HA
       simp only [l26_few.j1] at H
       by_cases c7 : aL = true
       ·subst c7
        rw [if_pos rfl] at H
        obtain rfl := Option.some.inj H
        go_wp2
        go_ret
        exact ⟨by first|rfl|(simp;done)|(simp [*];done),by repeat (first|exact Drawn0.refl _|apply Drawn0.step)⟩
       ·replace c7 := Bool.eq_false_iff.mpr c7
        subst c7
        rw [if_neg (show ¬ (false = true) by decide)] at H
        have H' := aK H
        clear H
        go_wp2
        go_loopg [4] kj3 (fun kq v4 w' => ∃ (aj : Int),v4 = .int .i64 aj ∧ Aside0 (l26_few.l1 kq l0 aa aj = some r) ∧ Aside0 (kq ≤ kj3) ∧ Drawn0 w w')
        case atStart => exact ⟨(0),(by first|rfl|(simp;done)|(simp [*];done)),H',⟨Nat.le_refl _⟩,by repeat (first|exact Drawn0.refl _|apply Drawn0.step)⟩
        case round =>
         clear H'
         try clear p2
         try clear p3
         try clear q3
         try clear hx3
         try clear c7
         try clear ay
         try clear ao
         try clear ap
         try clear az
         try clear aA
         try clear aM
         try clear aB
         try clear aC
         try clear aN
         try clear aO
         try clear p2
         try clear p3
         try clear aw
         try clear a1
         try clear q3
         try clear ax
         try clear a2
         obtain ⟨aj,rfl,HA,bV,⟨m3,rfl⟩⟩ := hrel
         cases gk with
        |zero => exact absurd HA.out (by simp [l26_few.l1])
        |succ k3 =>
          have H := HA.out
          clear HA
          simp only [l26_few.l1] at H
          obtain ⟨c8,H⟩ := iS H
          have ca := decide_eq_true c8
          clear c8
          obtain ⟨c9,H⟩ := iS H
          have cb := decide_eq_true c9
          clear c9
          by_cases c10 : aj < (((rd_T28 l0 aa).f2).length : Int)
          ·rw [if_pos c10] at H
           have bL := decide_eq_true c10
           clear c10
           obtain ⟨b7,H⟩ := iS H
           have b8 := decide_eq_true b7
           clear b7
           by_cases bE : (((rd_T53 ((rd_T28 l0 aa).f2) aj).f0).size : Int) > 100
           ·rw [if_pos bE] at H
            have bN := decide_eq_true bE
            have bO : decide (100 < ((rd_T53 ((rd_T28 l0 aa).f2) aj).f0).size) = true := decide_eq_true (by omega)
            clear bE
            obtain rfl := Option.some.inj H
            have au : 0 ≤ (aa : Int) := dA
            have av : aa < (l0.length : Int) := dA
            obtain ⟨aT,a3,a4,a5,a6,a7,aU,aq,ar,aV,aW,ab,ac,ad,ae⟩ := at_T28 bm.out aa au av
            cases a7
            have aX := aK ac
            have aY := aK ab
            clear ac ab
            have aZ := aK ae
            have a0 := aK ad
            clear ae ad
            replace au := eq_true au
            replace av := eq_true av
            have aG : 0 ≤ (aa : Int) := dA
            have aH : aa < (l0.length : Int) := dA
            obtain ⟨a8,bu,bv,bx,bz,bB,bd,aD,aE,be,bf,ak,al,am,an⟩ := at_T28 bm.out aa aG aH
            obtain rfl : aT = a8 := (by injection bB)
            have bg := aK al
            have bh := aK ak
            clear al ak
            have aF := aK an
            have bi := aK am
            clear an am
            replace aG := eq_true aG
            replace aH := eq_true aH
            have ea_ := Option.some.inj (aq.symm.trans aD)
            injection ea_ with ea_ en_ ec_
            subst ea_
            subst ec_
            clear en_
            have ea_ := Option.some.inj (ar.symm.trans aE)
            injection ea_ with ea_ en_ ec_
            subst ea_
            subst ec_
            clear en_
            have aI : 0 ≤ (aj : Int) := dA
            have aJ : aj < (((rd_T28 l0 aa).f2).length : Int) := dA
            obtain ⟨bP,bC,bj,bk⟩ := at_T53 aF.out aj aI aJ
            cases bC
            replace aI := eq_true aI
            replace aJ := eq_true aJ
            go_wp2
            go_ret
            exact ⟨by first|rfl|(simp;done)|(simp [*];done),by repeat (first|exact Drawn0.refl _|apply Drawn0.step)⟩
           ·rw [if_neg bE] at H
            have bN := decide_eq_false bE
            have bO : decide (100 < ((rd_T53 ((rd_T28 l0 aa).f2) aj).f0).size) = false := decide_eq_false (by omega)
            clear bE
            have H' := aK H
            clear H
            have au : 0 ≤ (aa : Int) := dA
            have av : aa < (l0.length : Int) := dA
            obtain ⟨aT,a3,a4,a5,a6,a7,aU,aq,ar,aV,aW,ab,ac,ad,ae⟩ := at_T28 bm.out aa au av
            cases a7
            have aX := aK ac
            have aY := aK ab
            clear ac ab
            have aZ := aK ae
            have a0 := aK ad
            clear ae ad
            replace au := eq_true au
            replace av := eq_true av
            have aG : 0 ≤ (aa : Int) := dA
            have aH : aa < (l0.length : Int) := dA
            obtain ⟨a8,bu,bv,bx,bz,bB,bd,aD,aE,be,bf,ak,al,am,an⟩ := at_T28 bm.out aa aG aH
            obtain rfl : aT = a8 := (by injection bB)
            have bg := aK al
            have bh := aK ak
            clear al ak
            have aF := aK an
            have bi := aK am
            clear an am
            replace aG := eq_true aG
            replace aH := eq_true aH
            have ea_ := Option.some.inj (aq.symm.trans aD)
            injection ea_ with ea_ en_ ec_
            subst ea_
            subst ec_
            clear en_
            have ea_ := Option.some.inj (ar.symm.trans aE)
            injection ea_ with ea_ en_ ec_
            subst ea_
            subst ec_
            clear en_
            have aI : 0 ≤ (aj : Int) := dA
            have aJ : aj < (((rd_T28 l0 aa).f2).length : Int) := dA
            obtain ⟨bP,bC,bj,bk⟩ := at_T53 aF.out aj aI aJ
            cases bC
            replace aI := eq_true aI
            replace aJ := eq_true aJ
            go_wp2
            go_roundg k3
            case measure => have := bD.out;have := bU.out;have := bV.out;omega
            case rel => exact ⟨(wrap64 (aj + 1)),(by first|rfl|(simp;done)|(simp [*];done)),H',⟨by have := bD.out;have := bU.out;have := bV.out;omega⟩,by repeat (first|exact Drawn0.refl _|apply Drawn0.step)⟩
          ·rw [if_neg c10] at H
           have bL := decide_eq_false c10
           clear c10
           have H' := aK H
           clear H
           have au : 0 ≤ (aa : Int) := dA
           have av : aa < (l0.length : Int) := dA
           obtain ⟨aT,a3,a4,a5,a6,a7,aU,aq,ar,aV,aW,ab,ac,ad,ae⟩ := at_T28 bm.out aa au av
           cases a7
           have aX := aK ac
           have aY := aK ab
           clear ac ab
           have aZ := aK ae
           have a0 := aK ad
           clear ae ad
           replace au := eq_true au
           replace av := eq_true av
           go_wp2
           go_roundg k3
           case measure => have := bD.out;have := bU.out;have := bV.out;omega
           case rel => exact ⟨(wrap64 (aa + 1)),(by first|rfl|(simp;done)|(simp [*];done)),H',⟨by have := bD.out;have := bU.out;have := bV.out;omega⟩,by repeat (first|exact Drawn0.refl _|apply Drawn0.step)⟩
    ·rw [if_neg c3] at H
     have bI := decide_eq_false c3
     clear c3
     obtain rfl := Option.some.inj H
     go_wp2
     go_ret
     exact ⟨by first|rfl|(simp;done)|(simp [*];done),by repeat (first|exact Drawn0.refl _|apply Drawn0.step)⟩

/-! ### r26_Get: function 13 -/
def r26_Get.l0 : Nat → List (S28) → Int → Int → Option (Int × List Int × (List (S53)) × Int × Int × Bool)
|0,_,_,_ => none
|k + 1,x0,x1,x6 => if x6 < (x0.length : Int) then (if 0 ≤ x6 then (if ((rd_T28 x0 x6).f0) = x1 then (some ((rd_T28 x0 x6).f0,(rd_T28 x0 x6).f1,(rd_T28 x0 x6).f2,(rd_T28 x0 x6).f3,(rd_T28 x0 x6).f4,true)) else (r26_Get.l0 k x0 x1 (wrap64 (x6 + 1)))) else (none)) else (some (0,([] : List Int),([] : List (S53)),0,0,false))
def r26_Get.f (k : Nat) (l0 : List (S28)) (a1 : Int) : Option (Int × List Int × (List (S53)) × Int × Int × Bool) := r26_Get.l0 k l0 a1 0
theorem r26_Get.mono_l : ∀ k, (∀ y0 y1 y2, LeO (r26_Get.l0 k y0 y1 y2) (r26_Get.l0 (k + 1) y0 y1 y2))
|0 => fun _ _ _ r h => by simp [r26_Get.l0] at h
|k + 1 => by
  have ih0 := r26_Get.mono_l k
  ·intro y0 y1 y2
   unfold r26_Get.l0
   repeat' (with_reducible first|exact ih0 _ _ _|exact LeO.refl _|exact LeO.none _|refine LeO.ite ?_ ?_|refine LeO.bind ?_ (fun _ => ?_))
theorem r26_Get.mono : ∀ a0 a1 k, LeO (r26_Get.f k a0 a1) (r26_Get.f (k + 1) a0 a1) := by
 intro a0 a1 k
 have ih0 := r26_Get.mono_l k
 unfold r26_Get.f
 repeat' (with_reducible first|exact ih0 _ _ _|exact LeO.refl _|exact LeO.none _|refine LeO.ite ?_ ?_|refine LeO.bind ?_ (fun _ => ?_))
theorem r26_Get.calls (k : Nat) (be : Nat → Prop) (A0 : Option Addr) (c0 : Nat) (l0 : List (S28)) (a1 : Int) (r1 : Int) (r2 : List Int) (r3 : List (S53)) (r4 : Int) (r5 : Int) (r6 : Bool) (w : World) (bQ : Kd.V k28 28 w w.heap.size (fun k_ => be k_) (.slice A0 l0.length c0) l0) (h : r26_Get.f k l0 a1 = some (r1, r2, r3, r4, r5, r6)) :
  Calls Tryz.prog 13 #[.slice A0 l0.length c0,.int .i64 a1] w fun e w' => ∃ bJ bK : Value,e = .returned (.tuple #[.agg #[.int .i64 r1,bJ,bK,.int .i64 r4,.int .i64 r5],.bool r6]) ∧ Kd.V (Kd.int .i64) 3 w' w.heap.size (fun k_ => (be k_ ∨ w.heap.size ≤ k_)) bJ r2 ∧ Kd.V k53 53 w' w.heap.size (fun k_ => (be k_ ∨ w.heap.size ≤ k_)) bK r3 ∧ Below w.heap.size w w' := by
 have bR := Tryz.underlying28
 have bx := aK (show Kd.V k28 28 w w.heap.size (fun k_ => (be k_ ∨ w.heap.size ≤ k_)) (.slice A0 l0.length c0) l0 from Kd.V_mono bQ (fun k_ hk => .inl hk))
 have HB := aK (Below.refl w.heap.size w)
 have H : (r26_Get.l0 k l0 a1 0) = some (r1,r2,r3,r4,r5,r6) := h
 clear h
 have H' := aK H
 clear H
 go_enter Tryz.func13,Tryz.ntmps13
 go_wp2_with (first|((with_reducible refine gate_dst (N := 4) rfl ?_);refine box_event ?hg (N := 4) ?hd (cs := #[.int .i64 0,.slice none 0 0,.slice none 0 0,.int .i64 0,.int .i64 0]) (t := 28) ?hr ?_;(case hd => rfl);(case hg => rfl);(case hr => first|(go_simp;done)|(go_simp;rfl));intro ad hg w3 hbox hb;replace bx := aK (Kd.V_below (Kd.V_elderB (vM bx.out) ad (Nat.le_of_eq hg.symm)) hb);have aA := aK (hbox);have bf := aK ((by rw [hg];exact (below_size (bM HB.out)) : w.heap.size ≤ ad));have bL := Ge.mk bf.out;have bg := aK ((by rw [hg];exact (below_size (bM HB.out)) : w.heap.size ≤ ad));have bN := Ge.mk bg.out;replace HB := aK (below_step (bM HB.out) hb);clear hb hbox hg))
 go_loopg [6] k (fun kq v6 w' => ∃ (aa : Int) (ag : Int) (ac : Int) (ab : Int),v6 = .int .i64 aa ∧ Aside0 (r26_Get.l0 kq l0 a1 aa = some (r1,r2,r3,r4,r5,r6)) ∧ Aside0 (kq ≤ k) ∧ Aside0 (Kd.V k28 28 w' w.heap.size (fun k_ => (be k_ ∨ w.heap.size ≤ k_) ∧ k_ ≠ ad) (.slice A0 l0.length c0) l0) ∧ Aside0 (w'.heap[ad]? = some (.cells #[.int .i64 ag,(.slice none 0 0),(.slice none 0 0),.int .i64 ac,.int .i64 ab] 28 (0,0))) ∧ Aside0 (Below w.heap.size w w'))
 case atStart => exact ⟨(0),(0),(0),(0),(by first|rfl|(simp;done)|(simp [*];done)),H',⟨Nat.le_refl _⟩,⟨vM bx.out⟩,⟨kM aA.out⟩,⟨bG HB.out⟩⟩
 case round =>
  clear H'
  try clear p2
  obtain ⟨aa,ag,ac,ab,rfl,HA,bO,aB,aA,HB⟩ := hrel
  cases gk with
 |zero => exact absurd HA.out (by simp [r26_Get.l0])
 |succ k1 =>
   have H := HA.out
   clear HA
   simp only [r26_Get.l0] at H
   by_cases c4 : aa < (l0.length : Int)
   ·rw [if_pos c4] at H
    have bz := decide_eq_true c4
    clear c4
    obtain ⟨c5,H⟩ := iS H
    have bS := decide_eq_true c5
    clear c5
    by_cases c6 : ((rd_T28 l0 aa).f0) = a1
    ·rw [if_pos c6] at H
     have bB := beq_iff_eq.mpr c6
     have bC := bne_eq_false_iff_eq.mpr c6
     clear c6
     simp only [Option.some.injEq,Prod.mk.injEq] at H
     obtain ⟨rfl,rfl,rfl,rfl,rfl,rfl⟩ := H
     have aC : 0 ≤ (aa : Int) := dA
     have aD : aa < (l0.length : Int) := dA
     obtain ⟨ba,al,am,au,av,bb,aS,aw,ax,aT,aU,ao,ap,aq,ar⟩ := at_T28 (Kd.V_reads' aB.out).2.2 aa aC aD
     cases bb
     obtain ⟨bh,aI,aJ,an⟩ := Kd.V_get aB.out z28 aa aC (by first|exact aD|exact dA|(have e_ := (Kd.V_reads' aB.out).1;omega))
     obtain ⟨aV,aW,aX,aY,rfl,ah,ai,aj,ak⟩ := k28_openF aJ
     have ae := an 1 _ rfl
     rw [add_field _ _ 1 (by omega)] at ae
     replace ae := Option.some.inj (ae.symm.trans aw)
     injection ae with hva_ hvn_ hvc_
     rw [hva_] at ai
     rw [hvc_] at ah
     have aZ := aK (show Kd.V (Kd.int .i64) 3 _ w.heap.size _ _ ((rd_T28 l0 aa).f1) from Kd.V_mk ah ai)
     clear hva_ hvn_ hvc_ ai ah
     have af := an 2 _ rfl
     rw [add_field _ _ 2 (by omega)] at af
     replace af := Option.some.inj (af.symm.trans ax)
     injection af with hva_ hvn_ hvc_
     rw [hva_] at ak
     rw [hvc_] at aj
     have a0 := aK (show Kd.V k53 53 _ w.heap.size _ _ ((rd_T28 l0 aa).f2) from Kd.V_mk aj ak)
     clear hva_ hvn_ hvc_ ak aj
     clear an aI
     have a2 := aK ap
     have a3 := aK ao
     clear ap ao
     have a4 := aK ar
     have a5 := aK aq
     clear ar aq
     replace aC := eq_true aC
     replace aD := eq_true aD
     have a6 : 0 ≤ (aa : Int) := dA
     have a7 : aa < (l0.length : Int) := dA
     obtain ⟨bi,bD,bE,bF,bH,bI,bj,aM,aN,bk,bm,aO,aP,aQ,aR⟩ := at_T28 (Kd.V_reads' aB.out).2.2 aa a6 a7
     obtain rfl : ba = bi := (by injection bI)
     obtain ⟨bP,bc,bd,aL⟩ := Kd.V_get aB.out z28 aa a6 (by first|exact a7|exact dA|(have e_ := (Kd.V_reads' aB.out).1;omega))
     obtain ⟨bn,bo,bp,bq,rfl,aE,aF,aG,aH⟩ := k28_openF bd
     have ay := aL 1 _ rfl
     rw [add_field _ _ 1 (by omega)] at ay
     replace ay := Option.some.inj (ay.symm.trans aM)
     injection ay with hva_ hvn_ hvc_
     rw [hva_] at aF
     rw [hvc_] at aE
     have a8 := aK (show Kd.V (Kd.int .i64) 3 _ w.heap.size _ _ ((rd_T28 l0 aa).f1) from Kd.V_mk aE aF)
     clear hva_ hvn_ hvc_ aF aE
     have az := aL 2 _ rfl
     rw [add_field _ _ 2 (by omega)] at az
     replace az := Option.some.inj (az.symm.trans aN)
     injection az with hva_ hvn_ hvc_
     rw [hva_] at aH
     rw [hvc_] at aG
     have a9 := aK (show Kd.V k53 53 _ w.heap.size _ _ ((rd_T28 l0 aa).f2) from Kd.V_mk aG aH)
     clear hva_ hvn_ hvc_ aH aG
     clear aL bc
     have br := aK aP
     have bs := aK aO
     clear aP aO
     have bu := aK aR
     have bv := aK aQ
     clear aR aQ
     replace a6 := eq_true a6
     replace a7 := eq_true a7
     have ea_ := Option.some.inj (aw.symm.trans aM)
     injection ea_ with ea_ en_ ec_
     subst ea_
     subst ec_
     clear en_
     have ea_ := Option.some.inj (ax.symm.trans aN)
     injection ea_ with ea_ en_ ec_
     subst ea_
     subst ec_
     clear en_
     obtain ⟨_,_,_,_,_,_,_,_,_,_⟩ := bk5_ aA.out
     go_wp2
     refine bodyPost_ret (results_ct rfl _ _ ad 28 #[.int .i64 ((rd_T28 l0 aa).f0),.slice al ((rd_T28 l0 aa).f1).length am,.slice au ((rd_T28 l0 aa).f2).length av,.int .i64 ((rd_T28 l0 aa).f3),.int .i64 ((rd_T28 l0 aa).f4)] (0,0) _ rfl (by refine kO ?_;refine blk_put (cs := #[.int .i64 ((rd_T28 l0 aa).f0),.slice al ((rd_T28 l0 aa).f1).length am,.slice au ((rd_T28 l0 aa).f2).length av,.int .i64 ((rd_T28 l0 aa).f3),.int .i64 ab]) ?_ 4 _ rfl;refine kO ?_;refine blk_put (cs := #[.int .i64 ((rd_T28 l0 aa).f0),.slice al ((rd_T28 l0 aa).f1).length am,.slice au ((rd_T28 l0 aa).f2).length av,.int .i64 ac,.int .i64 ab]) ?_ 3 _ rfl;refine kO ?_;refine blk_put (cs := #[.int .i64 ((rd_T28 l0 aa).f0),.slice al ((rd_T28 l0 aa).f1).length am,.slice none 0 0,.int .i64 ac,.int .i64 ab]) ?_ 2 _ rfl;refine kO ?_;refine blk_put (cs := #[.int .i64 ((rd_T28 l0 aa).f0),.slice none 0 0,.slice none 0 0,.int .i64 ac,.int .i64 ab]) ?_ 1 _ rfl;refine kO ?_;refine blk_put (cs := #[.int .i64 ag,.slice none 0 0,.slice none 0 0,.int .i64 ac,.int .i64 ab]) ?_ 0 _ rfl;refine kO ?_;exact aA.out) Tryz.underlying28 rfl (by kernel_rfl)) rfl ?_
     exact ⟨_,_,by first|rfl|(simp [errW_none,errW_some] <;> rfl)|(simp [*,errW_none,errW_some] <;> rfl),by (with_reducible repeat (first|apply Kd.V_alloc|apply Kd.V_drewN|apply Kd.V_drew));exact Kd.V_mono (Kd.V_far (p := ⟨ad,4,none⟩) (Kd.V_far (p := ⟨ad,3,none⟩) (Kd.V_far (p := ⟨ad,2,none⟩) (Kd.V_far (p := ⟨ad,1,none⟩) (Kd.V_far (p := ⟨ad,0,none⟩) (Kd.V_mono a8.out (fun k_ hk => (⟨hk,hk.2⟩ : _ ∧ k_ ≠ ad))) (fun _ hk => hk.2) (.int .i64 ((rd_T28 l0 aa).f0))) (fun _ hk => hk.2) (.slice al ((rd_T28 l0 aa).f1).length am)) (fun _ hk => hk.2) (.slice au ((rd_T28 l0 aa).f2).length av)) (fun _ hk => hk.2) (.int .i64 ((rd_T28 l0 aa).f3))) (fun _ hk => hk.2) (.int .i64 ((rd_T28 l0 aa).f4))) (fun _ hk => hk.1.1),by (with_reducible repeat (first|apply Kd.V_alloc|apply Kd.V_drewN|apply Kd.V_drew));exact Kd.V_mono (Kd.V_far (p := ⟨ad,4,none⟩) (Kd.V_far (p := ⟨ad,3,none⟩) (Kd.V_far (p := ⟨ad,2,none⟩) (Kd.V_far (p := ⟨ad,1,none⟩) (Kd.V_far (p := ⟨ad,0,none⟩) (Kd.V_mono a9.out (fun k_ hk => (⟨hk,hk.2⟩ : _ ∧ k_ ≠ ad))) (fun _ hk => hk.2) (.int .i64 ((rd_T28 l0 aa).f0))) (fun _ hk => hk.2) (.slice al ((rd_T28 l0 aa).f1).length am)) (fun _ hk => hk.2) (.slice au ((rd_T28 l0 aa).f2).length av)) (fun _ hk => hk.2) (.int .i64 ((rd_T28 l0 aa).f3))) (fun _ hk => hk.2) (.int .i64 ((rd_T28 l0 aa).f4))) (fun _ hk => hk.1.1),bG HB.out⟩
    ·rw [if_neg c6] at H
     have bB := beq_eq_false_iff_ne.mpr c6
     have bC := bne_iff_ne.mpr c6
     have H' := aK H
     clear H
     have aC : 0 ≤ (aa : Int) := dA
     have aD : aa < (l0.length : Int) := dA
     obtain ⟨ba,al,am,au,av,bb,aS,aw,ax,aT,aU,ao,ap,aq,ar⟩ := at_T28 (Kd.V_reads' aB.out).2.2 aa aC aD
     cases bb
     obtain ⟨bh,aI,aJ,an⟩ := Kd.V_get aB.out z28 aa aC (by first|exact aD|exact dA|(have e_ := (Kd.V_reads' aB.out).1;omega))
     obtain ⟨aV,aW,aX,aY,rfl,ah,ai,aj,ak⟩ := k28_openF aJ
     have ae := an 1 _ rfl
     rw [add_field _ _ 1 (by omega)] at ae
     replace ae := Option.some.inj (ae.symm.trans aw)
     injection ae with hva_ hvn_ hvc_
     rw [hva_] at ai
     rw [hvc_] at ah
     have aZ := aK (show Kd.V (Kd.int .i64) 3 _ w.heap.size _ _ ((rd_T28 l0 aa).f1) from Kd.V_mk ah ai)
     clear hva_ hvn_ hvc_ ai ah
     have af := an 2 _ rfl
     rw [add_field _ _ 2 (by omega)] at af
     replace af := Option.some.inj (af.symm.trans ax)
     injection af with hva_ hvn_ hvc_
     rw [hva_] at ak
     rw [hvc_] at aj
     have a0 := aK (show Kd.V k53 53 _ w.heap.size _ _ ((rd_T28 l0 aa).f2) from Kd.V_mk aj ak)
     clear hva_ hvn_ hvc_ ak aj
     clear an aI
     have a2 := aK ap
     have a3 := aK ao
     clear ap ao
     have a4 := aK ar
     have a5 := aK aq
     clear ar aq
     replace aC := eq_true aC
     replace aD := eq_true aD
     go_wp2
     go_roundg k1
     case measure => have := bO.out;omega
     case rel => exact ⟨(wrap64 (aa + 1)),(ag),(ac),(ab),(by first|rfl|(simp;done)|(simp [*];done)),H',⟨by have := bO.out;omega⟩,⟨vM aB.out⟩,⟨kM aA.out⟩,⟨bG HB.out⟩⟩
   ·rw [if_neg c4] at H
    have bz := decide_eq_false c4
    clear c4
    simp only [Option.some.injEq,Prod.mk.injEq] at H
    obtain ⟨rfl,rfl,rfl,rfl,rfl,rfl⟩ := H
    obtain ⟨_,_,_,_,_,_,_,_,_,_⟩ := bk5_ aA.out
    go_wp2
    refine bodyPost_ret (results_ct rfl _ _ ad 28 #[.int .i64 0,.slice none 0 0,.slice none 0 0,.int .i64 0,.int .i64 0] (0,0) _ rfl (by refine kO ?_;refine blk_put (cs := #[.int .i64 0,.slice none 0 0,.slice none 0 0,.int .i64 0,.int .i64 ab]) ?_ 4 _ rfl;refine kO ?_;refine blk_put (cs := #[.int .i64 0,.slice none 0 0,.slice none 0 0,.int .i64 ac,.int .i64 ab]) ?_ 3 _ rfl;refine kO ?_;refine blk_put (cs := #[.int .i64 0,.slice none 0 0,.slice none 0 0,.int .i64 ac,.int .i64 ab]) ?_ 2 _ rfl;refine kO ?_;refine blk_put (cs := #[.int .i64 0,.slice none 0 0,.slice none 0 0,.int .i64 ac,.int .i64 ab]) ?_ 1 _ rfl;refine kO ?_;refine blk_put (cs := #[.int .i64 ag,.slice none 0 0,.slice none 0 0,.int .i64 ac,.int .i64 ab]) ?_ 0 _ rfl;refine kO ?_;exact aA.out) Tryz.underlying28 rfl (by kernel_rfl)) rfl ?_
    exact ⟨_,_,by first|rfl|(simp [errW_none,errW_some] <;> rfl)|(simp [*,errW_none,errW_some] <;> rfl),Kd.V_nil _ _ _ _ _,Kd.V_nil _ _ _ _ _,bG HB.out⟩
end Go.Proofs.YtgadbpljlpclnaaGreatDoor.H
