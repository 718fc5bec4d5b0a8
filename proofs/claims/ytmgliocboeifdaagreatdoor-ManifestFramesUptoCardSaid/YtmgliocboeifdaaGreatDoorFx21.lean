import Derived.Test.YtmgliocboeifdaaGreatDoorFx0
namespace Go.Proofs.YtmgliocboeifdaaGreatDoor.F
open Go.RowKit Go.Proofs.YtmgliocboeifdaaGreatDoorW.PrintWords Go.Proofs.YtmgliocboeifdaaGreatDoorW.PrintLast Go.Proofs.YtmgliocboeifdaaGreatDoorW.PrintMore
set_option maxHeartbeats 4000000
set_option maxRecDepth 100000
attribute [local go_sem] max2_int min2_int max_two min_two max_three min_three max_four min_four
set_option linter.unusedVariables false
set_option linter.unusedSimpArgs false
def l33_small.l0 : Nat → List (S30) → Int → Option (Bool)
|0,_,_ => none
|k + 1,x0,x3 => if x3 < (x0.length : Int) then (if 0 ≤ x3 then (if (((rd_T30 x0 x3).f3).length : Int) > 40 then (some false) else (if (((rd_T30 x0 x3).f4).length : Int) > 40 then (some false) else (if (((rd_T30 x0 x3).f5).length : Int) > 40 then (some false) else (l33_small.l0 k x0 (wrap64 (x3 + 1)))))) else (none)) else (some true)
def l33_small.f (k : Nat) (l0 : List (S30)) : Option (Bool) := if (l0.length : Int) > 40 then (some false) else (l33_small.l0 k l0 0)
theorem l33_small.mono_l : ∀ k, (∀ y0 y1, LeO (l33_small.l0 k y0 y1) (l33_small.l0 (k + 1) y0 y1))
|0 => fun _ _ r h => by simp [l33_small.l0] at h
|k + 1 => by
  have ih0 := l33_small.mono_l k
  ·intro y0 y1
   unfold l33_small.l0
   repeat' (with_reducible first|exact ih0 _ _|exact LeO.refl _|exact LeO.none _|refine LeO.ite ?_ ?_|refine LeO.bind ?_ (fun _ => ?_))
theorem l33_small.mono : ∀ a0 k, LeO (l33_small.f k a0) (l33_small.f (k + 1) a0) := by
 intro a0 k
 have ih0 := l33_small.mono_l k
 unfold l33_small.f
 repeat' (with_reducible first|exact ih0 _ _|exact LeO.refl _|exact LeO.none _|refine LeO.ite ?_ ?_|refine LeO.bind ?_ (fun _ => ?_))
theorem l33_small.calls (k : Nat) (A0 : Option Addr) (c0 : Nat) (l0 : List (S30)) (r : Bool) (w : World) (bR : Kd.C k30 w A0 l0.length l0) (bS : l0.length ≤ c0) (h : l33_small.f k l0 = some r) :
  Calls Tryz.prog 7 #[.slice A0 l0.length c0] w fun e w' => e = .returned (.bool r) ∧ Drawn0 w w' := by
 have bk := aK bR
 have bV := aK bS
 clear bR bS
 have H : (if (l0.length : Int) > 40 then (some false) else (l33_small.l0 k l0 0)) = some r := h
 clear h
 by_cases c2 : (l0.length : Int) > 40
 ·rw [if_pos c2] at H
  have bH := decide_eq_true c2
  have bI : decide (40 < l0.length) = true := decide_eq_true (by omega)
  clear c2
  obtain rfl := Option.some.inj H
  go_enter Tryz.func7,Tryz.ntmps7
  go_wp2
  go_ret
  exact ⟨by first|rfl|(simp;done)|(simp [*];done),by repeat (first|exact Drawn0.refl _|apply Drawn0.step)⟩
 ·rw [if_neg c2] at H
  have bH := decide_eq_false c2
  have bI : decide (40 < l0.length) = false := decide_eq_false (by omega)
  clear c2
  have H' := aK H
  clear H
  go_enter Tryz.func7,Tryz.ntmps7
  go_wp2
  go_loopg [3] k (fun kq v3 w' => ∃ (aa : Int),v3 = .int .i64 aa ∧ Aside0 (l33_small.l0 kq l0 aa = some r) ∧ Aside0 (kq ≤ k) ∧ Drawn0 w w')
  case atStart => exact ⟨(0),(by first|rfl|(simp;done)|(simp [*];done)),H',⟨Nat.le_refl _⟩,by repeat (first|exact Drawn0.refl _|apply Drawn0.step)⟩
  case round =>
   clear H'
   try clear c2
   try clear bH
   try clear bI
   try clear p2
   obtain ⟨aa,rfl,HA,bT,⟨m1,rfl⟩⟩ := hrel
   cases gk with
  |zero => exact absurd HA.out (by simp [l33_small.l0])
  |succ k1 =>
    have H := HA.out
    clear HA
    simp only [l33_small.l0] at H
    by_cases c3 : aa < (l0.length : Int)
    ·rw [if_pos c3] at H
     have bJ := decide_eq_true c3
     clear c3
     obtain ⟨c4,H⟩ := iS H
     have bU := decide_eq_true c4
     clear c4
     by_cases c5 : (((rd_T30 l0 aa).f3).length : Int) > 40
     ·rw [if_pos c5] at H
      have bK := decide_eq_true c5
      have bL : decide (40 < ((rd_T30 l0 aa).f3).length) = true := decide_eq_true (by omega)
      clear c5
      obtain rfl := Option.some.inj H
      have aq : 0 ≤ (aa : Int) := dA
      have ar : aa < (l0.length : Int) := dA
      obtain ⟨aD,aU,aV,aW,aX,aY,aZ,a0,aG,aH,aI,ah,ai,aj,ab,ac,ad,ae,af,ag⟩ := at_T30 bk.out aa aq ar
      cases a0
      have aJ := aK ac
      have aL := aK ab
      clear ac ab
      have aM := aK ae
      have aN := aK ad
      clear ae ad
      have aO := aK ag
      have aP := aK af
      clear ag af
      replace aq := eq_true aq
      replace ar := eq_true ar
      go_wp2
      go_ret
      exact ⟨by first|rfl|(simp;done)|(simp [*];done),by repeat (first|exact Drawn0.refl _|apply Drawn0.step)⟩
     ·rw [if_neg c5] at H
      have bK := decide_eq_false c5
      have bL : decide (40 < ((rd_T30 l0 aa).f3).length) = false := decide_eq_false (by omega)
      clear c5
      by_cases c6 : (((rd_T30 l0 aa).f4).length : Int) > 40
      ·rw [if_pos c6] at H
       have bN := decide_eq_true c6
       have bO : decide (40 < ((rd_T30 l0 aa).f4).length) = true := decide_eq_true (by omega)
       clear c6
       obtain rfl := Option.some.inj H
       have aq : 0 ≤ (aa : Int) := dA
       have ar : aa < (l0.length : Int) := dA
       obtain ⟨aD,aU,aV,aW,aX,aY,aZ,a0,aG,aH,aI,ah,ai,aj,ab,ac,ad,ae,af,ag⟩ := at_T30 bk.out aa aq ar
       cases a0
       have aJ := aK ac
       have aL := aK ab
       clear ac ab
       have aM := aK ae
       have aN := aK ad
       clear ae ad
       have aO := aK ag
       have aP := aK af
       clear ag af
       replace aq := eq_true aq
       replace ar := eq_true ar
       have aE : 0 ≤ (aa : Int) := dA
       have aF : aa < (l0.length : Int) := dA
       obtain ⟨aT,bc,bd,be,bf,bg,bh,bi,a3,a4,a5,au,av,aw,ak,al,am,an,ao,ap⟩ := at_T30 bk.out aa aE aF
       obtain rfl : aD = aT := (by injection bi)
       have a6 := aK al
       have a7 := aK ak
       clear al ak
       have a8 := aK an
       have a9 := aK am
       clear an am
       have ba := aK ap
       have bb := aK ao
       clear ap ao
       replace aE := eq_true aE
       replace aF := eq_true aF
       have ea_ := Option.some.inj (ah.symm.trans au)
       injection ea_ with ea_ en_ ec_
       subst ea_
       subst ec_
       clear en_
       have ea_ := Option.some.inj (ai.symm.trans av)
       injection ea_ with ea_ en_ ec_
       subst ea_
       subst ec_
       clear en_
       have ea_ := Option.some.inj (aj.symm.trans aw)
       injection ea_ with ea_ en_ ec_
       subst ea_
       subst ec_
       clear en_
       go_wp2
       go_ret
       exact ⟨by first|rfl|(simp;done)|(simp [*];done),by repeat (first|exact Drawn0.refl _|apply Drawn0.step)⟩
      ·rw [if_neg c6] at H
       have bN := decide_eq_false c6
       have bO : decide (40 < ((rd_T30 l0 aa).f4).length) = false := decide_eq_false (by omega)
       clear c6
       by_cases c7 : (((rd_T30 l0 aa).f5).length : Int) > 40
       ·rw [if_pos c7] at H
        have bP := decide_eq_true c7
        have bQ : decide (40 < ((rd_T30 l0 aa).f5).length) = true := decide_eq_true (by omega)
        clear c7
        obtain rfl := Option.some.inj H
        have aq : 0 ≤ (aa : Int) := dA
        have ar : aa < (l0.length : Int) := dA
        obtain ⟨aD,aU,aV,aW,aX,aY,aZ,a0,aG,aH,aI,ah,ai,aj,ab,ac,ad,ae,af,ag⟩ := at_T30 bk.out aa aq ar
        cases a0
        have aJ := aK ac
        have aL := aK ab
        clear ac ab
        have aM := aK ae
        have aN := aK ad
        clear ae ad
        have aO := aK ag
        have aP := aK af
        clear ag af
        replace aq := eq_true aq
        replace ar := eq_true ar
        have aE : 0 ≤ (aa : Int) := dA
        have aF : aa < (l0.length : Int) := dA
        obtain ⟨aT,bc,bd,be,bf,bg,bh,bi,a3,a4,a5,au,av,aw,ak,al,am,an,ao,ap⟩ := at_T30 bk.out aa aE aF
        obtain rfl : aD = aT := (by injection bi)
        have a6 := aK al
        have a7 := aK ak
        clear al ak
        have a8 := aK an
        have a9 := aK am
        clear an am
        have ba := aK ap
        have bb := aK ao
        clear ap ao
        replace aE := eq_true aE
        replace aF := eq_true aF
        have ea_ := Option.some.inj (ah.symm.trans au)
        injection ea_ with ea_ en_ ec_
        subst ea_
        subst ec_
        clear en_
        have ea_ := Option.some.inj (ai.symm.trans av)
        injection ea_ with ea_ en_ ec_
        subst ea_
        subst ec_
        clear en_
        have ea_ := Option.some.inj (aj.symm.trans aw)
        injection ea_ with ea_ en_ ec_
        subst ea_
        subst ec_
        clear en_
        have a1 : 0 ≤ (aa : Int) := dA
        have a2 : aa < (l0.length : Int) := dA
        obtain ⟨bj,bx,bz,bB,bC,bD,bE,bF,bm,bn,bo,aQ,aR,aS,ax,ay,az,aA,aB,aC⟩ := at_T30 bk.out aa a1 a2
        obtain rfl : aD = bj := (by injection bF)
        have bp := aK ay
        have bq := aK ax
        clear ay ax
        have br := aK aA
        have bs := aK az
        clear aA az
        have bu := aK aC
        have bv := aK aB
        clear aC aB
        replace a1 := eq_true a1
        replace a2 := eq_true a2
        have ea_ := Option.some.inj (ah.symm.trans aQ)
        injection ea_ with ea_ en_ ec_
        subst ea_
        subst ec_
        clear en_
        have ea_ := Option.some.inj (ai.symm.trans aR)
        injection ea_ with ea_ en_ ec_
        subst ea_
        subst ec_
        clear en_
        have ea_ := Option.some.inj (aj.symm.trans aS)
        injection ea_ with ea_ en_ ec_
        subst ea_
        subst ec_
        clear en_
        go_wp2
        go_ret
        exact ⟨by first|rfl|(simp;done)|(simp [*];done),by repeat (first|exact Drawn0.refl _|apply Drawn0.step)⟩
       ·rw [if_neg c7] at H
        have bP := decide_eq_false c7
        have bQ : decide (40 < ((rd_T30 l0 aa).f5).length) = false := decide_eq_false (by omega)
        clear c7
        have H' := aK H
        clear H
        have aq : 0 ≤ (aa : Int) := dA
        have ar : aa < (l0.length : Int) := dA
        obtain ⟨aD,aU,aV,aW,aX,aY,aZ,a0,aG,aH,aI,ah,ai,aj,ab,ac,ad,ae,af,ag⟩ := at_T30 bk.out aa aq ar
        cases a0
        have aJ := aK ac
        have aL := aK ab
        clear ac ab
        have aM := aK ae
        have aN := aK ad
        clear ae ad
        have aO := aK ag
        have aP := aK af
        clear ag af
        replace aq := eq_true aq
        replace ar := eq_true ar
        have aE : 0 ≤ (aa : Int) := dA
        have aF : aa < (l0.length : Int) := dA
        obtain ⟨aT,bc,bd,be,bf,bg,bh,bi,a3,a4,a5,au,av,aw,ak,al,am,an,ao,ap⟩ := at_T30 bk.out aa aE aF
        obtain rfl : aD = aT := (by injection bi)
        have a6 := aK al
        have a7 := aK ak
        clear al ak
        have a8 := aK an
        have a9 := aK am
        clear an am
        have ba := aK ap
        have bb := aK ao
        clear ap ao
        replace aE := eq_true aE
        replace aF := eq_true aF
        have ea_ := Option.some.inj (ah.symm.trans au)
        injection ea_ with ea_ en_ ec_
        subst ea_
        subst ec_
        clear en_
        have ea_ := Option.some.inj (ai.symm.trans av)
        injection ea_ with ea_ en_ ec_
        subst ea_
        subst ec_
        clear en_
        have ea_ := Option.some.inj (aj.symm.trans aw)
        injection ea_ with ea_ en_ ec_
        subst ea_
        subst ec_
        clear en_
        have a1 : 0 ≤ (aa : Int) := dA
        have a2 : aa < (l0.length : Int) := dA
        obtain ⟨bj,bx,bz,bB,bC,bD,bE,bF,bm,bn,bo,aQ,aR,aS,ax,ay,az,aA,aB,aC⟩ := at_T30 bk.out aa a1 a2
        obtain rfl : aD = bj := (by injection bF)
        have bp := aK ay
        have bq := aK ax
        clear ay ax
        have br := aK aA
        have bs := aK az
        clear aA az
        have bu := aK aC
        have bv := aK aB
        clear aC aB
        replace a1 := eq_true a1
        replace a2 := eq_true a2
        have ea_ := Option.some.inj (ah.symm.trans aQ)
        injection ea_ with ea_ en_ ec_
        subst ea_
        subst ec_
        clear en_
        have ea_ := Option.some.inj (ai.symm.trans aR)
        injection ea_ with ea_ en_ ec_
        subst ea_
        subst ec_
        clear en_
        have ea_ := Option.some.inj (aj.symm.trans aS)
        injection ea_ with ea_ en_ ec_
        subst ea_
        subst ec_
        clear en_
        go_wp2
        go_roundg k1
        case measure => have := bT.out;omega
        case rel => exact ⟨(wrap64 (aa + 1)),(by first|rfl|(simp;done)|(simp [*];done)),H',⟨by have := bT.out;omega⟩,by repeat (first|exact Drawn0.refl _|apply Drawn0.step)⟩
    ·rw [if_neg c3] at H
     have bJ := decide_eq_false c3
     clear c3
     obtain rfl := Option.some.inj H
     go_wp2
     go_ret
     exact ⟨by first|rfl|(simp;done)|(simp [*];done),by repeat (first|exact Drawn0.refl _|apply Drawn0.step)⟩
def r04_four.f (a0 : Int) : Option (List Int) := some (([((Int.tdiv a0 16777216) % 4294967296) % 256, ((Int.tdiv a0 65536) % 4294967296) % 256, ((Int.tdiv a0 256) % 4294967296) % 256, (Int.tmod a0 256) % 256] : List Int))
theorem r04_four.calls (a0 : Int) (r : List Int) (w : World) (h : r04_four.f a0 = some r) :
  Calls Tryz.prog 64 #[.int .u32 a0] w fun e w' => ∃ ag : Value,e = .returned (ag) ∧ Kd.R (Kd.int .u8) 5 w' w.heap.size (fun _ => True) ag r ∧ Below w.heap.size w w' := by
 have HB := aK (Below.refl w.heap.size w)
 have H : (some (([((Int.tdiv a0 16777216) % 4294967296) % 256,((Int.tdiv a0 65536) % 4294967296) % 256,((Int.tdiv a0 256) % 4294967296) % 256,(Int.tmod a0 256) % 256] : List Int))) = some r := h
 clear h
 obtain ⟨ae,aa⟩ : ∃ y_ : List Int,y_ = (([((Int.tdiv a0 16777216) % 4294967296) % 256,((Int.tdiv a0 65536) % 4294967296) % 256,((Int.tdiv a0 256) % 4294967296) % 256,(Int.tmod a0 256) % 256] : List Int)) := ⟨_,rfl⟩
 replace H : (some ae) = some r := by first|(rw [aa];with_reducible exact H)|(have af := (Option.bind_some _ _).symm.trans H;rw [aa];with_reducible exact af)|(have af := (Option.bind_some _ _).symm.trans H;with_reducible exact af)|with_reducible exact H|(rw [aa];exact H)|exact H
 have ab := aK aa
 clear aa
 obtain rfl := Option.some.inj H
 go_enter Tryz.func64,Tryz.ntmps64
 go_wp2_with (first|((with_reducible refine gate_dst (N := 18) rfl ?_);refine Kd.R_lit (Kd.int .u8) _ 5 ?hg (N := 18) ?hd (xs := ([((Int.tdiv a0 16777216) % 4294967296) % 256,((Int.tdiv a0 65536) % 4294967296) % 256,((Int.tdiv a0 256) % 4294967296) % 256,(Int.tmod a0 256) % 256] : List Int)) (inner := [.int .u8 (((Int.tdiv a0 16777216) % 4294967296) % 256),.int .u8 (((Int.tdiv a0 65536) % 4294967296) % 256),.int .u8 (((Int.tdiv a0 256) % 4294967296) % 256),.int .u8 ((Int.tmod a0 256) % 256)]) (ok := fun _ => True) (okp := fun _ => True) ?hr ?hp (fun _ hk => hk) trivial (Below.refl _ _) (Nat.le_refl _) (by simp) ?_;(case hd => rfl);(case hg => rfl);(case hr => first|(go_simp;done)|(go_simp;rfl));(case hp => exact (Reps.one (show Kd.M (Kd.int .u8) _ _ _ (((Int.tdiv a0 16777216) % 4294967296) % 256) [.int .u8 (((Int.tdiv a0 16777216) % 4294967296) % 256)] from rfl) (Reps.one (show Kd.M (Kd.int .u8) _ _ _ (((Int.tdiv a0 65536) % 4294967296) % 256) [.int .u8 (((Int.tdiv a0 65536) % 4294967296) % 256)] from rfl) (Reps.one (show Kd.M (Kd.int .u8) _ _ _ (((Int.tdiv a0 256) % 4294967296) % 256) [.int .u8 (((Int.tdiv a0 256) % 4294967296) % 256)] from rfl) (Reps.one (show Kd.M (Kd.int .u8) _ _ _ ((Int.tmod a0 256) % 256) [.int .u8 ((Int.tmod a0 256) % 256)] from rfl) (Reps.none _ _))))));intro ah w2 ac hb hg_ hnew_;clear hg_ hnew_;(first|rw [← ab.out] at ac|(simp only [Int.reduceToNat] at ac;rw [← ab.out] at ac));have ad := aK (Kd.R_lower ac (below_size (bM HB.out)));replace HB := aK (below_step (bM HB.out) hb);clear hb ac))
 go_ret
 exact ⟨_,by first|rfl|(simp [errW_none,errW_some] <;> rfl)|(simp [*,errW_none,errW_some] <;> rfl),rM ad.out,bM HB.out⟩
def r04_take.l0 : Nat → Int → Int → Option (Int)
|0,_,_ => none
|k + 1,x0,x5 => if x5 < 8 then (if (Int.tmod x0 2) = 1 then (r04_take.l0 k (Go.bits .xor .u32 ((Int.tdiv x0 2) % 4294967296) 2197175160) (wrap64 (x5 + 1))) else (r04_take.l0 k ((Int.tdiv x0 2) % 4294967296) (wrap64 (x5 + 1)))) else (some x0)
def r04_take.f (k : Nat) (a0 : Int) (a1 : Int) : Option (Int) := r04_take.l0 k (Go.bits .xor .u32 a0 ((a1) % 4294967296)) 0
theorem r04_take.mono_l : ∀ k, (∀ y0 y1, LeO (r04_take.l0 k y0 y1) (r04_take.l0 (k + 1) y0 y1))
|0 => fun _ _ r h => by simp [r04_take.l0] at h
|k + 1 => by
  have ih0 := r04_take.mono_l k
  ·intro y0 y1
   unfold r04_take.l0
   repeat' (with_reducible first|exact ih0 _ _|exact LeO.refl _|exact LeO.none _|refine LeO.ite ?_ ?_|refine LeO.bind ?_ (fun _ => ?_))
theorem r04_take.mono : ∀ a0 a1 k, LeO (r04_take.f k a0 a1) (r04_take.f (k + 1) a0 a1) := by
 intro a0 a1 k
 have ih0 := r04_take.mono_l k
 unfold r04_take.f
 repeat' (with_reducible first|exact ih0 _ _|exact LeO.refl _|exact LeO.none _|refine LeO.ite ?_ ?_|refine LeO.bind ?_ (fun _ => ?_))
theorem r04_take.calls (k : Nat) (a0 : Int) (a1 : Int) (r : Int) (w : World) (h : r04_take.f k a0 a1 = some r) :
  Calls Tryz.prog 87 #[.int .u32 a0,.int .u8 a1] w fun e w' => e = .returned (.int .u32 r) ∧ Drawn0 w w' := by
 have H : (r04_take.l0 k (Go.bits .xor .u32 a0 ((a1) % 4294967296)) 0) = some r := h
 clear h
 have H' := aK H
 clear H
 go_enter Tryz.func87,Tryz.ntmps87
 go_wp2
 go_loopg [0,5] k (fun kq v0 v5 w' => ∃ (aa : Int) (ab : Int),v0 = .int .u32 aa ∧ v5 = .int .i64 ab ∧ Aside0 (r04_take.l0 kq aa ab = some r) ∧ Aside0 (kq ≤ k) ∧ Drawn0 w w')
 case atStart => exact ⟨(Go.bits .xor .u32 a0 ((a1) % 4294967296)),(0),(by first|rfl|(simp;done)|(simp [*];done)),(by first|rfl|(simp;done)|(simp [*];done)),H',⟨Nat.le_refl _⟩,by repeat (first|exact Drawn0.refl _|apply Drawn0.step)⟩
 case round =>
  clear H'
  try clear p2
  obtain ⟨aa,ab,rfl,rfl,HA,ac,⟨m1,rfl⟩⟩ := hrel
  cases gk with
 |zero => exact absurd HA.out (by simp [r04_take.l0])
 |succ k1 =>
   have H := HA.out
   clear HA
   simp only [r04_take.l0] at H
   by_cases c3 : ab < 8
   ·rw [if_pos c3] at H
    have ad := decide_eq_true c3
    clear c3
    by_cases c4 : (Int.tmod aa 2) = 1
    ·rw [if_pos c4] at H
     have ae := beq_iff_eq.mpr c4
     have af := bne_eq_false_iff_eq.mpr c4
     clear c4
     have H' := aK H
     clear H
     go_wp2
     go_roundg k1
     case measure => have := ac.out;omega
     case rel => exact ⟨(Go.bits .xor .u32 ((Int.tdiv aa 2) % 4294967296) 2197175160),(wrap64 (ab + 1)),(by first|rfl|(simp;done)|(simp [*];done)),(by first|rfl|(simp;done)|(simp [*];done)),H',⟨by have := ac.out;omega⟩,by repeat (first|exact Drawn0.refl _|apply Drawn0.step)⟩
    ·rw [if_neg c4] at H
     have ae := beq_eq_false_iff_ne.mpr c4
     have af := bne_iff_ne.mpr c4
     have H' := aK H
     clear H
     go_wp2
     go_roundg k1
     case measure => have := ac.out;omega
     case rel => exact ⟨((Int.tdiv aa 2) % 4294967296),(wrap64 (ab + 1)),(by first|rfl|(simp;done)|(simp [*];done)),(by first|rfl|(simp;done)|(simp [*];done)),H',⟨by have := ac.out;omega⟩,by repeat (first|exact Drawn0.refl _|apply Drawn0.step)⟩
   ·rw [if_neg c3] at H
    have ad := decide_eq_false c3
    clear c3
    obtain rfl := Option.some.inj H
    go_wp2
    go_ret
    exact ⟨by first|rfl|(simp;done)|(simp [*];done),by repeat (first|exact Drawn0.refl _|apply Drawn0.step)⟩
def r04_Extend.l0 : Nat → List Int → Int → Int → Option (Int)
|0,_,_,_ => none
|k + 1,x1,x5,x6 => if x6 < (x1.length : Int) then (if 0 ≤ x6 then ((r04_take.f k x5 (rd x1 x6)).bind fun aa => (r04_Extend.l0 k x1 aa (wrap64 (x6 + 1)))) else (none)) else (some (Go.bits .xor .u32 4294967295 x5))
def r04_Extend.f (k : Nat) (a0 : Int) (l1 : List Int) : Option (Int) := r04_Extend.l0 k l1 (Go.bits .xor .u32 4294967295 a0) 0
theorem r04_Extend.mono_l : ∀ k, (∀ y0 y1 y2, LeO (r04_Extend.l0 k y0 y1 y2) (r04_Extend.l0 (k + 1) y0 y1 y2))
|0 => fun _ _ _ r h => by simp [r04_Extend.l0] at h
|k + 1 => by
  have ih0 := r04_Extend.mono_l k
  ·intro y0 y1 y2
   unfold r04_Extend.l0
   repeat' (with_reducible first|exact ih0 _ _ _|exact r04_take.mono _ _ _|exact LeO.refl _|exact LeO.none _|refine LeO.ite ?_ ?_|refine LeO.bind ?_ (fun _ => ?_))
theorem r04_Extend.mono : ∀ a0 a1 k, LeO (r04_Extend.f k a0 a1) (r04_Extend.f (k + 1) a0 a1) := by
 intro a0 a1 k
 have ih0 := r04_Extend.mono_l k
 unfold r04_Extend.f
 repeat' (with_reducible first|exact ih0 _ _ _|exact r04_take.mono _ _ _|exact LeO.refl _|exact LeO.none _|refine LeO.ite ?_ ?_|refine LeO.bind ?_ (fun _ => ?_))
theorem r04_Extend.calls (k : Nat) (a0 : Int) (A1 : Option Addr) (c1 : Nat) (l1 : List Int) (r : Int) (w : World) (ai : Kd.C (Kd.int .u8) w A1 l1.length l1) (aj : l1.length ≤ c1) (h : r04_Extend.f k a0 l1 = some r) :
  Calls Tryz.prog 75 #[.int .u32 a0,.slice A1 l1.length c1] w fun e w' => e = .returned (.int .u32 r) ∧ Drawn0 w w' := by
 have an := aK ai
 have ap := aK aj
 clear ai aj
 have H : (r04_Extend.l0 k l1 (Go.bits .xor .u32 4294967295 a0) 0) = some r := h
 clear h
 have H' := aK H
 clear H
 go_enter Tryz.func75,Tryz.ntmps75
 go_wp2
 go_loopg [5,6] k (fun kq v5 v6 w' => ∃ (ab : Int) (aa : Int),v5 = .int .u32 ab ∧ v6 = .int .i64 aa ∧ Aside0 (r04_Extend.l0 kq l1 ab aa = some r) ∧ Aside0 (kq ≤ k) ∧ Drawn0 w w')
 case atStart => exact ⟨(Go.bits .xor .u32 4294967295 a0),(0),(by first|rfl|(simp;done)|(simp [*];done)),(by first|rfl|(simp;done)|(simp [*];done)),H',⟨Nat.le_refl _⟩,by repeat (first|exact Drawn0.refl _|apply Drawn0.step)⟩
 case round =>
  clear H'
  try clear p2
  obtain ⟨ab,aa,rfl,rfl,HA,ak,⟨m1,rfl⟩⟩ := hrel
  cases gk with
 |zero => exact absurd HA.out (by simp [r04_Extend.l0])
 |succ k1 =>
   have H := HA.out
   clear HA
   simp only [r04_Extend.l0] at H
   by_cases c3 : aa < (l1.length : Int)
   ·rw [if_pos c3] at H
    have ag := decide_eq_true c3
    clear c3
    obtain ⟨c4,H⟩ := iS H
    have ao := decide_eq_true c4
    clear c4
    replace H := Option.bind_eq_some_iff.mp H
    obtain ⟨ae,al,H⟩ := H
    have A5 := aK al
    clear al
    have H' := aK H
    clear H
    have ac : 0 ≤ (aa : Int) := dA
    have ad : aa < (l1.length : Int) := dA
    obtain ⟨am,ah,af⟩ := Kd.at_int an.out aa ac ad
    cases ah
    replace ac := eq_true ac
    replace ad := eq_true ad
    go_wp2_with (first|((with_reducible refine gate_callee (f := 87) rfl ?_);refine gL 20 Tryz.func87 #[.int .u32 ab,.int .u8 (rd l1 aa)] ?_;(with_reducible refine (r04_take.calls k1 ab (rd l1 aa) ae _ A5.out).mono ?_);rintro e w' ⟨rfl,⟨nd,rfl⟩⟩;refine ⟨_,rfl,?_⟩))
    go_roundg k1
    case measure => have := ak.out;omega
    case rel => exact ⟨(ae),(wrap64 (aa + 1)),(by first|rfl|(simp;done)|(simp [*];done)),(by first|rfl|(simp;done)|(simp [*];done)),H',⟨by have := ak.out;omega⟩,by repeat (first|exact Drawn0.refl _|apply Drawn0.step)⟩
   ·rw [if_neg c3] at H
    have ag := decide_eq_false c3
    clear c3
    obtain rfl := Option.some.inj H
    go_wp2
    go_ret
    exact ⟨by first|rfl|(simp;done)|(simp [*];done),by repeat (first|exact Drawn0.refl _|apply Drawn0.step)⟩
def r04_Sum.f (k : Nat) (l0 : List Int) : Option (Int) := (r04_Extend.f k 0 l0).bind fun aa => (some aa)
theorem r04_Sum.mono : ∀ a0 k, LeO (r04_Sum.f k a0) (r04_Sum.f (k + 1) a0) := by
 intro a0 k
 unfold r04_Sum.f
 repeat' (with_reducible first|exact r04_Extend.mono _ _ _|exact LeO.refl _|exact LeO.none _|refine LeO.ite ?_ ?_|refine LeO.bind ?_ (fun _ => ?_))
theorem r04_Sum.calls (k : Nat) (A0 : Option Addr) (c0 : Nat) (l0 : List Int) (r : Int) (w : World) (ad : Kd.C (Kd.int .u8) w A0 l0.length l0) (ae : l0.length ≤ c0) (h : r04_Sum.f k l0 = some r) :
  Calls Tryz.prog 65 #[.slice A0 l0.length c0] w fun e w' => e = .returned (.int .u32 r) ∧ Drawn0 w w' := by
 have ag := aK ad
 have ah := aK ae
 clear ad ae
 have H : ((r04_Extend.f k 0 l0).bind fun aa => (some aa)) = some r := h
 clear h
 replace H := Option.bind_eq_some_iff.mp H
 obtain ⟨aa,af,H⟩ := H
 have A2 := aK af
 clear af
 obtain rfl := Option.some.inj H
 go_enter Tryz.func65,Tryz.ntmps65
 go_wp2_with (first|((with_reducible refine gate_callee (f := 75) rfl ?_);refine gL 4 Tryz.func75 #[.int .u32 0,.slice A0 l0.length c0] ?_;(with_reducible refine (r04_Extend.calls k 0 _ _ l0 aa _ ?ab ?ac A2.out).mono ?_);(case ab => exact cM ag.out);(case ac => exact ah.out);rintro e w' ⟨rfl,⟨nd,rfl⟩⟩;refine ⟨_,rfl,?_⟩))
 go_ret
 exact ⟨by first|rfl|(simp;done)|(simp [*];done),by repeat (first|exact Drawn0.refl _|apply Drawn0.step)⟩
end Go.Proofs.YtmgliocboeifdaaGreatDoor.F
