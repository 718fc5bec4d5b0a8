import Derived.Test.YtobdkgoapcbipaaGreatDoorJx0
import Derived.Test.YtobdkgoapcbipaaGreatDoorJx2
namespace Go.Proofs.YtobdkgoapcbipaaGreatDoor.J
open Go.RowKit Go.Proofs.YtobdkgoapcbipaaGreatDoorW.PrintWords Go.Proofs.YtobdkgoapcbipaaGreatDoorW.PrintLast Go.Proofs.YtobdkgoapcbipaaGreatDoorW.PrintMore
set_option maxHeartbeats 4000000
set_option maxRecDepth 100000
attribute [local go_sem] max2_int min2_int max_two min_two max_three min_three max_four min_four
set_option linter.unusedVariables false
set_option linter.unusedSimpArgs false

/-! ### strings_genSplit: function 91 -/
mutual
def strings_genSplit.j0 : Nat → ByteArray → ByteArray → Int → Int → Option (List ByteArray)
|0,_,_,_,_ => none
|k + 1,x0,x1,x2,x3 => if 0 ≤ (mn x3 (wrap64 ((x0.size : Int) + 1))) then (if (mn x3 (wrap64 ((x0.size : Int) + 1)) : Int).toNat ≤ 17592186044416 then (strings_genSplit.l0 k x0 x1 x2 (wrap64 ((mn x3 (wrap64 ((x0.size : Int) + 1))) - 1)) (List.replicate (mn x3 (wrap64 ((x0.size : Int) + 1)) : Int).toNat (⟨#[]⟩ : ByteArray)) 0) else (none)) else (none)
def strings_genSplit.l0 : Nat → ByteArray → ByteArray → Int → Int → List ByteArray → Int → Option (List ByteArray)
|0,_,_,_,_,_,_ => none
|k + 1,x0,x1,x2,x3,x9,aa => if aa < x3 then ((strings_Index.f x0 x1).bind fun ab => (if ab < 0 then (if 0 ≤ aa then (if aa < (x9.length : Int) then (if 0 ≤ (wrap64 (aa + 1)) then (if (wrap64 (aa + 1)) ≤ (x9.length : Int) then (some ((x9.set (aa : Int).toNat x0).take ((wrap64 (aa + 1)) : Int).toNat)) else (none)) else (none)) else (none)) else (none)) else (if 0 ≤ (wrap64 (ab + x2)) then (if (wrap64 (ab + x2)) ≤ (x0.size : Int) then (if 0 ≤ aa then (if aa < (x9.length : Int) then (if 0 ≤ (wrap64 (ab + (x1.size : Int))) then (if (wrap64 (ab + (x1.size : Int))) ≤ (x0.size : Int) then (strings_genSplit.l0 k (x0.extract ((wrap64 (ab + (x1.size : Int))) : Int).toNat x0.size) x1 x2 x3 (x9.set (aa : Int).toNat (x0.extract 0 ((wrap64 (ab + x2)) : Int).toNat)) (wrap64 (aa + 1))) else (none)) else (none)) else (none)) else (none)) else (none)) else (none)))) else (if 0 ≤ aa then (if aa < (x9.length : Int) then (if 0 ≤ (wrap64 (aa + 1)) then (if (wrap64 (aa + 1)) ≤ (x9.length : Int) then (some ((x9.set (aa : Int).toNat x0).take ((wrap64 (aa + 1)) : Int).toNat)) else (none)) else (none)) else (none)) else (none))
end
def strings_genSplit.f (k : Nat) (a0 : ByteArray) (a1 : ByteArray) (a2 : Int) (a3 : Int) : Option (List ByteArray) := if a3 = 0 then (some ([] : List ByteArray)) else (if a1.toList = ([] : List UInt8) then ((strings_explode.f a0 a3).bind fun aa => (some aa)) else (if a3 < 0 then ((strings_Count.f a0 a1).bind fun ab => (strings_genSplit.j0 k a0 a1 a2 (wrap64 (ab + 1)))) else (strings_genSplit.j0 k a0 a1 a2 a3)))
theorem strings_genSplit.mono_l : ∀ k, (∀ y0 y1 y2 y3, LeO (strings_genSplit.j0 k y0 y1 y2 y3) (strings_genSplit.j0 (k + 1) y0 y1 y2 y3)) ∧ (∀ y0 y1 y2 y3 y4 y5, LeO (strings_genSplit.l0 k y0 y1 y2 y3 y4 y5) (strings_genSplit.l0 (k + 1) y0 y1 y2 y3 y4 y5))
|0 => ⟨fun _ _ _ _ r h => by simp [strings_genSplit.j0] at h,fun _ _ _ _ _ _ r h => by simp [strings_genSplit.l0] at h⟩
|k + 1 => by
  obtain ⟨ih0,ih1⟩ := strings_genSplit.mono_l k
  refine ⟨?_,?_⟩
  ·intro y0 y1 y2 y3
   unfold strings_genSplit.j0
   repeat' (with_reducible first|exact ih1 _ _ _ _ _ _|exact LeO.refl _|exact LeO.none _|refine LeO.ite ?_ ?_|refine LeO.bind ?_ (fun _ => ?_))
  ·intro y0 y1 y2 y3 y4 y5
   unfold strings_genSplit.l0
   repeat' (with_reducible first|exact ih1 _ _ _ _ _ _|exact LeO.refl _|exact LeO.none _|refine LeO.ite ?_ ?_|refine LeO.bind ?_ (fun _ => ?_))
theorem strings_genSplit.mono : ∀ a0 a1 a2 a3 k, LeO (strings_genSplit.f k a0 a1 a2 a3) (strings_genSplit.f (k + 1) a0 a1 a2 a3) := by
 intro a0 a1 a2 a3 k
 obtain ⟨ih0,ih1⟩ := strings_genSplit.mono_l k
 unfold strings_genSplit.f
 repeat' (with_reducible first|exact ih0 _ _ _ _|exact ih1 _ _ _ _ _ _|exact LeO.refl _|exact LeO.none _|refine LeO.ite ?_ ?_|refine LeO.bind ?_ (fun _ => ?_))
theorem strings_genSplit.calls (k : Nat) (a0 : ByteArray) (a1 : ByteArray) (a2 : Int) (a3 : Int) (r : List ByteArray) (w : World) (h : strings_genSplit.f k a0 a1 a2 a3 = some r) :
  Calls Tryz.prog 91 #[.string a0,.string a1,.int .i64 a2,.int .i64 a3] w fun e w' => ∃ cw : Value,e = .returned (cw) ∧ Kd.R Kd.string 9 w' w.heap.size (fun _ => True) cw r ∧ Below w.heap.size w w' := by
 have HB := aK (Below.refl w.heap.size w)
 unfold strings_genSplit.f at h
 have H := h
 clear h
 by_cases c5 : a3 = 0
 ·rw [if_pos c5] at H
  have a4 := beq_iff_eq.mpr c5
  have a5 := bne_eq_false_iff_eq.mpr c5
  clear c5
  obtain rfl := Option.some.inj H
  go_enter Tryz.func91,Tryz.ntmps91
  go_wp2
  go_ret
  exact ⟨_,by first|rfl|(simp [errW_none,errW_some] <;> rfl)|(simp [*,errW_none,errW_some] <;> rfl),by first|exact Kd.R_nil _ _ _ _ _|exact Kd.N_nil _ _ _ _ _|exact Kd.V_nil _ _ _ _ _|exact Kd.Q_nil _ _ _ _ _|exact Kd.S_nil _ _ _ _ _,bM HB.out⟩
 ·rw [if_neg c5] at H
  have a4 := beq_eq_false_iff_ne.mpr c5
  have a5 := bne_iff_ne.mpr c5
  by_cases c6 : a1.toList = ([] : List UInt8)
  ·rw [if_pos c6] at H
   have a6 := beq_iff_eq.mpr c6
   have a7 := bne_eq_false_iff_eq.mpr c6
   clear c6
   replace H := Option.bind_eq_some_iff.mp H
   obtain ⟨bP,cx,H⟩ := H
   have A7 := aK cx
   clear cx
   obtain rfl := Option.some.inj H
   go_enter Tryz.func91,Tryz.ntmps91
   go_wp2_with (first|((with_reducible refine gate_callee (f := 105) rfl ?_);refine gL 18 Tryz.func105 #[.string a0,.int .i64 a3] ?_;(with_reducible refine (strings_explode.calls a0 a3 bP _ A7.out).mono ?_);rintro e w8 ⟨dg,rfl,cy,hb⟩;refine ⟨_,rfl,?_⟩;have a8 := aK (Kd.R_lower cy (below_size (bM HB.out)));replace HB := aK (below_step (bM HB.out) hb);(try clear hb);(try clear hk);(try clear cy)))
   go_ret
   exact ⟨_,by first|rfl|(simp [errW_none,errW_some] <;> rfl)|(simp [*,errW_none,errW_some] <;> rfl),rM a8.out,bM HB.out⟩
  ·rw [if_neg c6] at H
   have a6 := beq_eq_false_iff_ne.mpr c6
   have a7 := bne_iff_ne.mpr c6
   have bQ := aK H
   clear H
   go_enter Tryz.func91,Tryz.ntmps91
   go_upto_if 20 with (fail)
   go_cut [3] (fun v3 wc => ∃ (kq : Nat) (ay : Int),v3 = .int .i64 ay ∧ Aside0 (strings_genSplit.j0 kq a0 a1 a2 ay = some r) ∧ Aside0 (kq ≤ k) ∧ Aside0 (Below w.heap.size w wc))
   case first =>
    have H := bQ.out
    clear bQ
    by_cases c10 : a3 < 0
    ·rw [if_pos c10] at H
     have aj := decide_eq_true c10
     clear c10
     (first|rw [aj]|(simp only [i64_w,i32_w];rw [aj])|rw [c10b1]|skip)
     replace H := Option.bind_eq_some_iff.mp H
     obtain ⟨a9,ba,H⟩ := H
     have dh := aK ba
     clear ba
     have H' := aK H
     clear H
     go_wp2_with (first|((with_reducible refine gate_callee (f := 106) rfl ?_);refine gL 23 Tryz.func106 #[.string a0,.string a1] ?_;(with_reducible refine (strings_Count.calls a0 a1 a9 _ dh.out).mono ?_);rintro e w' ⟨rfl,⟨nd,rfl⟩⟩;refine ⟨_,rfl,?_⟩))
     go_meet
     case rel => exact ⟨_,(wrap64 (a9 + 1)),(by first|rfl|(simp;done)|(simp [*];done)),H',⟨by first|omega|exact Nat.le_refl _⟩,⟨bM HB.out⟩⟩
    ·rw [if_neg c10] at H
     have aj := decide_eq_false c10
     clear c10
     (first|rw [aj]|(simp only [i64_w,i32_w];rw [aj])|rw [c10b1]|skip)
     have H' := aK H
     clear H
     go_wp2
     go_meet
     case rel => exact ⟨_,(a3),(by first|rfl|(simp;done)|(simp [*];done)),H',⟨by first|omega|exact Nat.le_refl _⟩,⟨bM HB.out⟩⟩
   case rest =>
    clear bQ
    try clear p2
    try clear c5
    try clear a4
    try clear a5
    try clear c6
    try clear a6
    try clear a7
    try clear p6
    obtain ⟨kq,ay,rfl,HA,cz,HB⟩ := hcut
    cases kq with
   |zero => exact absurd HA.out (by simp [strings_genSplit.j0])
   |succ kj8 =>
     have H := HA.out
     clear HA
     simp only [strings_genSplit.j0] at H
     obtain ⟨ae,ak⟩ : ∃ j_ : Int,(mn ay (wrap64 ((a0.size : Int) + 1))) = j_ := ⟨_,rfl⟩
     replace H : (if 0 ≤ (ae) then (if (ae : Int).toNat ≤ 17592186044416 then (strings_genSplit.l0 kj8 a0 a1 a2 (wrap64 ((ae) - 1)) (List.replicate (ae : Int).toNat (⟨#[]⟩ : ByteArray)) 0) else (none)) else (none)) = some r := by first|(rw [ak] at H;exact H)|(simp only [ak] at H ⊢;exact H)
     have bR : (if (wrap64 ((a0.size : Int) + 1)) < ay then (wrap64 ((a0.size : Int) + 1)) else ay) = ae := ak
     by_cases aX : 0 ≤ (ae)
     ·rw [if_pos aX] at H
      have bb := eq_true aX
      have bc := decide_eq_true aX
      clear aX
      obtain ⟨bO,H⟩ := iS H
      have bd := eq_true bO
      have be := decide_eq_true bO
      clear bO
      obtain ⟨bf,al⟩ : ∃ y_ : List ByteArray,y_ = (List.replicate (ae : Int).toNat (⟨#[]⟩ : ByteArray)) := ⟨_,rfl⟩
      replace H : (strings_genSplit.l0 kj8 a0 a1 a2 (wrap64 ((ae) - 1)) bf 0) = some r := by first|(rw [al];with_reducible exact H)|(have ag := (Option.bind_some _ _).symm.trans H;rw [al];with_reducible exact ag)|(have ag := (Option.bind_some _ _).symm.trans H;with_reducible exact ag)|with_reducible exact H|(rw [al];exact H)|exact H
      have aI := aK al
      clear al
      have H' := aK H
      clear H
      go_wp2_with (first|((with_reducible refine gate_dst (N := 31) rfl ?_);refine Kd.R_make Kd.string _ 9 rfl (N := 31) rfl 31 _ _ rfl ae rfl rfl Tryz.underlying31 (.string ⟨#[]⟩) 16 info9 rfl (by decide) (by omega) (⟨#[]⟩ : ByteArray) (ok := fun _ => True) (okp := fun _ => True) rfl (fun _ hk => hk) trivial (dA) (Nat.le_trans (Nat.mul_le_mul_right _ (dA : ae.toNat ≤ 17592186044416)) (by omega)) (Below.refl _ _) (Nat.le_refl _) ?_;intro aQ ds az hb hg_ hnew_;clear hg_ hnew_;(first|rw [← aI.out] at az|(simp only [Int.reduceToNat] at az;rw [← aI.out] at az));have bg := aK (Kd.R_lower az (below_size (bM HB.out)));replace HB := aK (below_step (bM HB.out) hb);clear hb az))
      go_loopg [0,10] kj8 (fun kq v0 di w' => ∃ (ab : ByteArray) (ad : List ByteArray) (aa : Int),v0 = .string ab ∧ di = .int .i64 aa ∧ Aside0 (strings_genSplit.l0 kq ab a1 a2 (wrap64 ((ae) - 1)) ad aa = some r) ∧ Aside0 (kq ≤ kj8) ∧ Aside0 (Kd.R Kd.string 9 w' w.heap.size (fun _ => True) aQ ad) ∧ Aside0 (Below w.heap.size w w'))
      case atStart => exact ⟨(a0),(bf),(0),(by first|rfl|(simp;done)|(simp [*];done)),(by first|rfl|(simp;done)|(simp [*];done)),H',⟨Nat.le_refl _⟩,⟨rM bg.out⟩,⟨bM HB.out⟩⟩
      case round =>
       clear H'
       try clear p2
       try clear p6
       try clear aX
       try clear bb
       try clear bc
       try clear bO
       try clear bd
       try clear be
       try clear p2
       try clear p6
       obtain ⟨ab,ad,aa,rfl,rfl,HA,cA,ac,HB⟩ := hrel
       cases gk with
      |zero => exact absurd HA.out (by simp [strings_genSplit.l0])
      |succ k2 =>
        have H := HA.out
        clear HA
        simp only [strings_genSplit.l0] at H
        by_cases aY : aa < (wrap64 ((ae) - 1))
        ·rw [if_pos aY] at H
         have bh := decide_eq_true aY
         clear aY
         replace H := Option.bind_eq_some_iff.mp H
         obtain ⟨af,bi,H⟩ := H
         have bj := aK bi
         clear bi
         by_cases aZ : af < 0
         ·rw [if_pos aZ] at H
          have bk := decide_eq_true aZ
          clear aZ
          obtain ⟨cB,H⟩ := iS H
          have cC := decide_eq_true cB
          clear cB
          obtain ⟨cD,H⟩ := iS H
          have cE := decide_eq_true cD
          clear cD
          obtain ⟨aB,am⟩ : ∃ y_ : List ByteArray,y_ = (ad.set (aa : Int).toNat ab) := ⟨_,rfl⟩
          replace H : (if 0 ≤ (wrap64 (aa + 1)) then (if (wrap64 (aa + 1)) ≤ (ad.length : Int) then (some (aB.take ((wrap64 (aa + 1)) : Int).toNat)) else (none)) else (none)) = some r := by first|(rw [am];with_reducible exact H)|(have ag := (Option.bind_some _ _).symm.trans H;rw [am];with_reducible exact ag)|(have ag := (Option.bind_some _ _).symm.trans H;with_reducible exact ag)|with_reducible exact H|(rw [am];exact H)|exact H
          have aJ := aK am
          clear am
          obtain ⟨ah,an⟩ : ∃ j_ : Int,(wrap64 (aa + 1)) = j_ := ⟨_,rfl⟩
          replace H : (if 0 ≤ (ah) then (if (ah) ≤ (ad.length : Int) then (some (aB.take ((ah) : Int).toNat)) else (none)) else (none)) = some r := by first|(rw [an] at H;exact H)|(simp only [an] at H ⊢;exact H)
          (try rw [an] at bj)
          have bS : (IntKind.i64.wrap (aa + 1)) = ah := (i64_w _).trans an
          obtain ⟨bT,H⟩ := iS H
          have cF := eq_true bT
          have cG := decide_eq_true bT
          clear bT
          obtain ⟨bU,H⟩ := iS H
          have cH := eq_true bU
          have cI := decide_eq_true bU
          clear bU
          obtain ⟨bm,ao⟩ : ∃ y_ : List ByteArray,y_ = (aB.take ((ah) : Int).toNat) := ⟨_,rfl⟩
          replace H : (some bm) = some r := by first|(rw [ao];with_reducible exact H)|(have ag := (Option.bind_some _ _).symm.trans H;rw [ao];with_reducible exact ag)|(have ag := (Option.bind_some _ _).symm.trans H;with_reducible exact ag)|with_reducible exact H|(rw [ao];exact H)|exact H
          have aL := aK ao
          clear ao
          obtain rfl := Option.some.inj H
          go_wp2_with (first|((with_reducible refine gate_callee (f := 69) rfl ?_);refine gL 39 Tryz.func69 #[.string ab,.string a1] ?_;(with_reducible refine (strings_Index.calls ab a1 af _ bj.out).mono ?_);rintro e w' ⟨rfl,⟨nd,rfl⟩⟩;refine ⟨_,rfl,?_⟩;(try (rw [drewN_self wr];generalize hq_ : World.drewN wr _ = wr;have bn : Aside0 (Kd.R Kd.string 9 wr w.heap.size (fun _ => True) aQ ad) := ⟨by rw [← hq_];exact (rM ac.out)⟩;have bo : Aside0 (Below w.heap.size w wr) := ⟨by rw [← hq_];exact (bM HB.out)⟩;clear ac HB hq_;have ac := bn;have HB := bo;clear bn bo));have bV : 0 ≤ (aa : Int) := dA;have bW : (aa : Int) < ((ad.length : Int) : Int) := dA;obtain ⟨aC,bp,bq,br,bX,dj,bs⟩ := Kd.R_form ac.out (by omega);(first|cases bq|(injection bq with ea_ en_ ec_;(first|subst ea_|(injection ea_ with ea_;subst ea_));subst ec_;clear en_));have bY := aK br;have dk := aK bs;clear br bX bs;obtain ⟨bZ,b1⟩ := Kd.R_celln (⟨#[]⟩ : ByteArray) ac.out (aa : Int) bV bW;replace bV := eq_true bV;replace bW := eq_true bW;obtain ⟨cJ,cK⟩ := Kd.R_celln (⟨#[]⟩ : ByteArray) ac.out (aa : Int) (dA) (dA);have aR := Kd.R_putg ac.out (aa : Int) ab)|((with_reducible refine gate_store (t := 9) (p := 61) rfl ?_);refine store_event (t := 9) (p := 61) (v := ?b2) (w1 := (wr.setCell ⟨aC,(aa : Int).toNat,none⟩ (.string ab))) ?hg ?ho ?hn ?hr ?_;(case ho => rfl);(case hg => rfl);(case hn => rfl);(case hr => first|(go_simp;done)|(go_simp;rfl));intro b3 hw;have hg : wr.grownBy b3 (some aC) := (by rw [hw];exact aR.2);have hp_ : Kd.R Kd.string 9 b3 w.heap.size (fun _ => True) (.slice (some ⟨aC,0,none⟩) ad.length bp) aB := (by rw [hw,aJ.out];exact aR.1);clear aR;replace ac := aK (hp_);replace HB := aK ((by rw [hw];exact below_set (HB.out) bY.out : Below w.heap.size w b3));clear hg hw hp_;have hyl_ := congrArg List.length aJ.out;rw [List.length_set] at hyl_;have b4 : ((ah) : Int) ≤ ((ad.length : Int) : Int) := dA;obtain ⟨dl,aM,_,bu,_⟩ := info_parts info9;have aS := cut_to (P := Tryz.prog) 31 9 .i64 Tryz.underlying31 aM (some ⟨aC,0,none⟩) ad.length bp (ah) (dA) b4 (Kd.R_reads' ac.out).2.1;have aD := Kd.R_take (m := ((ah) : Int).toNat) ac.out (by omega);have bv : bm.length = ((ah) : Int).toNat := (by rw [aL.out,List.length_take];omega);rw [← aL.out] at aD;rw [← bv] at aD aS;clear hyl_ bv aM bu ac;have bx := aK aD;clear aD;replace b4 := eq_true b4))
          go_ret
          exact ⟨_,by first|rfl|(simp [errW_none,errW_some] <;> rfl)|(simp only [← ak,← an];first|rfl|(simp [errW_none,errW_some] <;> rfl))|(simp [*,errW_none,errW_some] <;> rfl),rM bx.out,bM HB.out⟩
         ·rw [if_neg aZ] at H
          have bk := decide_eq_false aZ
          clear aZ
          obtain ⟨av,aw⟩ : ∃ j_ : Int,(wrap64 (af + a2)) = j_ := ⟨_,rfl⟩
          replace H : (if 0 ≤ (av) then (if (av) ≤ (ab.size : Int) then (if 0 ≤ aa then (if aa < (ad.length : Int) then (if 0 ≤ (wrap64 (af + (a1.size : Int))) then (if (wrap64 (af + (a1.size : Int))) ≤ (ab.size : Int) then (strings_genSplit.l0 k2 (ab.extract ((wrap64 (af + (a1.size : Int))) : Int).toNat ab.size) a1 a2 (wrap64 ((ae) - 1)) (ad.set (aa : Int).toNat (ab.extract 0 ((av) : Int).toNat)) (wrap64 (aa + 1))) else (none)) else (none)) else (none)) else (none)) else (none)) else (none)) = some r := by first|(rw [aw] at H;exact H)|(simp only [aw] at H ⊢;exact H)
          (try rw [aw] at bj)
          have b5 : (IntKind.i64.wrap (af + a2)) = av := (i64_w _).trans aw
          obtain ⟨b6,H⟩ := iS H
          have cL := eq_true b6
          have cN := decide_eq_true b6
          clear b6
          obtain ⟨b7,H⟩ := iS H
          have cO := eq_true b7
          have cP := decide_eq_true b7
          clear b7
          obtain ⟨cQ,H⟩ := iS H
          have cR := decide_eq_true cQ
          clear cQ
          obtain ⟨cS,H⟩ := iS H
          have cT := decide_eq_true cS
          clear cS
          obtain ⟨aE,ap⟩ : ∃ y_ : List ByteArray,y_ = (ad.set (aa : Int).toNat (ab.extract 0 ((av) : Int).toNat)) := ⟨_,rfl⟩
          replace H : (if 0 ≤ (wrap64 (af + (a1.size : Int))) then (if (wrap64 (af + (a1.size : Int))) ≤ (ab.size : Int) then (strings_genSplit.l0 k2 (ab.extract ((wrap64 (af + (a1.size : Int))) : Int).toNat ab.size) a1 a2 (wrap64 ((ae) - 1)) aE (wrap64 (aa + 1))) else (none)) else (none)) = some r := by first|(rw [ap];with_reducible exact H)|(have ag := (Option.bind_some _ _).symm.trans H;rw [ap];with_reducible exact ag)|(have ag := (Option.bind_some _ _).symm.trans H;with_reducible exact ag)|with_reducible exact H|(rw [ap];exact H)|exact H
          have bz := aK ap
          clear ap
          obtain ⟨aA,aq⟩ : ∃ j_ : Int,(wrap64 (af + (a1.size : Int))) = j_ := ⟨_,rfl⟩
          replace H : (if 0 ≤ (aA) then (if (aA) ≤ (ab.size : Int) then (strings_genSplit.l0 k2 (ab.extract ((aA) : Int).toNat ab.size) a1 a2 (wrap64 ((ae) - 1)) aE (wrap64 (aa + 1))) else (none)) else (none)) = some r := by first|(rw [aq] at H;exact H)|(simp only [aq] at H ⊢;exact H)
          (try rw [aq] at bj)
          have b8 : (IntKind.i64.wrap (af + (a1.size : Int))) = aA := (i64_w _).trans aq
          obtain ⟨b9,H⟩ := iS H
          have cU := eq_true b9
          have cV := decide_eq_true b9
          clear b9
          obtain ⟨ca,H⟩ := iS H
          have cW := eq_true ca
          have cX := decide_eq_true ca
          clear ca
          have H' := aK H
          clear H
          go_wp2_with (first|((with_reducible refine gate_callee (f := 69) rfl ?_);refine gL 39 Tryz.func69 #[.string ab,.string a1] ?_;(with_reducible refine (strings_Index.calls ab a1 af _ bj.out).mono ?_);rintro e w' ⟨rfl,⟨nd,rfl⟩⟩;refine ⟨_,rfl,?_⟩;(try (rw [drewN_self wr];generalize hq_ : World.drewN wr _ = wr;have bn : Aside0 (Kd.R Kd.string 9 wr w.heap.size (fun _ => True) aQ ad) := ⟨by rw [← hq_];exact (rM ac.out)⟩;have bo : Aside0 (Below w.heap.size w wr) := ⟨by rw [← hq_];exact (bM HB.out)⟩;clear ac HB hq_;have ac := bn;have HB := bo;clear bn bo));have cb : 0 ≤ (aa : Int) := dA;have cc : (aa : Int) < ((ad.length : Int) : Int) := dA;obtain ⟨aT,cd,bB,bC,ce,dm,bD⟩ := Kd.R_form ac.out (by omega);(first|cases bB|(injection bB with ea_ en_ ec_;(first|subst ea_|(injection ea_ with ea_;subst ea_));subst ec_;clear en_));have cf := aK bC;have dn := aK bD;clear bC ce bD;obtain ⟨cg,ch⟩ := Kd.R_celln (⟨#[]⟩ : ByteArray) ac.out (aa : Int) cb cc;replace cb := eq_true cb;replace cc := eq_true cc;obtain ⟨cY,cZ⟩ := Kd.R_celln (⟨#[]⟩ : ByteArray) ac.out (aa : Int) (dA) (dA);have aU := Kd.R_putg ac.out (aa : Int) (ab.extract 0 ((av) : Int).toNat))|((with_reducible refine gate_store (t := 9) (p := 49) rfl ?_);refine store_event (t := 9) (p := 49) (v := ?ci) (w1 := (wr.setCell ⟨aT,(aa : Int).toNat,none⟩ (.string (ab.extract 0 ((av) : Int).toNat)))) ?hg ?ho ?hn ?hr ?_;(case ho => rfl);(case hg => rfl);(case hn => rfl);(case hr => first|(go_simp;done)|(go_simp;rfl));intro cj hw;have hg : wr.grownBy cj (some aT) := (by rw [hw];exact aU.2);have hp_ : Kd.R Kd.string 9 cj w.heap.size (fun _ => True) (.slice (some ⟨aT,0,none⟩) ad.length cd) aE := (by rw [hw,bz.out];exact aU.1);clear aU;replace ac := aK (hp_);replace HB := aK ((by rw [hw];exact below_set (HB.out) cf.out : Below w.heap.size w cj));clear hg hw hp_))
          go_roundg k2
          case measure => have := cz.out;have := cA.out;omega
          case rel => exact ⟨(ab.extract ((aA) : Int).toNat ab.size),(aE),(wrap64 (aa + 1)),(by first|rfl|(simp;done)|(rw [Int.tdiv_eq_ediv_of_nonneg (by assumption)];done)|(rw [Int.tmod_eq_emod_of_nonneg (by assumption)];done)|(simp only [← aq] <;> (first|rfl|simp))|(simp [*];done)),(by first|rfl|(simp;done)|(simp [*];done)),H',⟨by have := cz.out;have := cA.out;omega⟩,⟨rM ac.out⟩,⟨bM HB.out⟩⟩
        ·rw [if_neg aY] at H
         have bh := decide_eq_false aY
         clear aY
         obtain ⟨c0,H⟩ := iS H
         have c1 := decide_eq_true c0
         clear c0
         obtain ⟨da,H⟩ := iS H
         have db := decide_eq_true da
         clear da
         obtain ⟨aF,ar⟩ : ∃ y_ : List ByteArray,y_ = (ad.set (aa : Int).toNat ab) := ⟨_,rfl⟩
         replace H : (if 0 ≤ (wrap64 (aa + 1)) then (if (wrap64 (aa + 1)) ≤ (ad.length : Int) then (some (aF.take ((wrap64 (aa + 1)) : Int).toNat)) else (none)) else (none)) = some r := by first|(rw [ar];with_reducible exact H)|(have ag := (Option.bind_some _ _).symm.trans H;rw [ar];with_reducible exact ag)|(have ag := (Option.bind_some _ _).symm.trans H;with_reducible exact ag)|with_reducible exact H|(rw [ar];exact H)|exact H
         have aN := aK ar
         clear ar
         obtain ⟨ai,ax⟩ : ∃ j_ : Int,(wrap64 (aa + 1)) = j_ := ⟨_,rfl⟩
         replace H : (if 0 ≤ (ai) then (if (ai) ≤ (ad.length : Int) then (some (aF.take ((ai) : Int).toNat)) else (none)) else (none)) = some r := by first|(rw [ax] at H;exact H)|(simp only [ax] at H ⊢;exact H)
         have ck : (IntKind.i64.wrap (aa + 1)) = ai := (i64_w _).trans ax
         obtain ⟨cl,H⟩ := iS H
         have dc := eq_true cl
         have dd := decide_eq_true cl
         clear cl
         obtain ⟨cm,H⟩ := iS H
         have de := eq_true cm
         have df := decide_eq_true cm
         clear cm
         obtain ⟨bE,au⟩ : ∃ y_ : List ByteArray,y_ = (aF.take ((ai) : Int).toNat) := ⟨_,rfl⟩
         replace H : (some bE) = some r := by first|(rw [au];with_reducible exact H)|(have ag := (Option.bind_some _ _).symm.trans H;rw [au];with_reducible exact ag)|(have ag := (Option.bind_some _ _).symm.trans H;with_reducible exact ag)|with_reducible exact H|(rw [au];exact H)|exact H
         have aO := aK au
         clear au
         obtain rfl := Option.some.inj H
         have cn : 0 ≤ (aa : Int) := dA
         have co : (aa : Int) < ((ad.length : Int) : Int) := dA
         obtain ⟨aG,bF,bH,bI,cp,dp,bJ⟩ := Kd.R_form ac.out (by omega)
         (first|cases bH|(injection bH with ea_ en_ ec_;(first|subst ea_|(injection ea_ with ea_;subst ea_));subst ec_;clear en_))
         have cq := aK bI
         have dq := aK bJ
         clear bI cp bJ
         obtain ⟨cr,cs⟩ := Kd.R_celln (⟨#[]⟩ : ByteArray) ac.out (aa : Int) cn co
         replace cn := eq_true cn
         replace co := eq_true co
         have aV := Kd.R_putg ac.out (aa : Int) ab
         go_wp2_with (first|((with_reducible refine gate_store (t := 9) (p := 61) rfl ?_);refine store_event (t := 9) (p := 61) (v := ?ct) (w1 := (wr.setCell ⟨aG,(aa : Int).toNat,none⟩ (.string ab))) ?hg ?ho ?hn ?hr ?_;(case ho => rfl);(case hg => rfl);(case hn => rfl);(case hr => first|(go_simp;done)|(go_simp;rfl));intro cu hw;have hg : wr.grownBy cu (some aG) := (by rw [hw];exact aV.2);have hp_ : Kd.R Kd.string 9 cu w.heap.size (fun _ => True) (.slice (some ⟨aG,0,none⟩) ad.length bF) aF := (by rw [hw,aN.out];exact aV.1);clear aV;replace ac := aK (hp_);replace HB := aK ((by rw [hw];exact below_set (HB.out) cq.out : Below w.heap.size w cu));clear hg hw hp_;have hyl_ := congrArg List.length aN.out;rw [List.length_set] at hyl_;have cv : ((ai) : Int) ≤ ((ad.length : Int) : Int) := dA;obtain ⟨dr,aP,_,bK,_⟩ := info_parts info9;have aW := cut_to (P := Tryz.prog) 31 9 .i64 Tryz.underlying31 aP (some ⟨aG,0,none⟩) ad.length bF (ai) (dA) cv (Kd.R_reads' ac.out).2.1;have aH := Kd.R_take (m := ((ai) : Int).toNat) ac.out (by omega);have bL : bE.length = ((ai) : Int).toNat := (by rw [aO.out,List.length_take];omega);rw [← aO.out] at aH;rw [← bL] at aH aW;clear hyl_ bL aP bK ac;have bN := aK aH;clear aH;replace cv := eq_true cv))
         go_ret
         exact ⟨_,by first|rfl|(simp [errW_none,errW_some] <;> rfl)|(simp only [← ak,← ax];first|rfl|(simp [errW_none,errW_some] <;> rfl))|(simp [*,errW_none,errW_some] <;> rfl),rM bN.out,bM HB.out⟩
     ·rw [if_neg aX] at H
      exact absurd H (by simp)

/-! ### strings_Split: function 67 -/
def strings_Split.f (k : Nat) (a0 : ByteArray) (a1 : ByteArray) : Option (List ByteArray) := (strings_genSplit.f k a0 a1 0 (-1)).bind fun aa => (some aa)
theorem strings_Split.mono : ∀ a0 a1 k, LeO (strings_Split.f k a0 a1) (strings_Split.f (k + 1) a0 a1) := by
 intro a0 a1 k
 unfold strings_Split.f
 repeat' (with_reducible first|exact strings_genSplit.mono _ _ _ _ _|exact LeO.refl _|exact LeO.none _|refine LeO.ite ?_ ?_|refine LeO.bind ?_ (fun _ => ?_))
theorem strings_Split.calls (k : Nat) (a0 : ByteArray) (a1 : ByteArray) (r : List ByteArray) (w : World) (h : strings_Split.f k a0 a1 = some r) :
  Calls Tryz.prog 67 #[.string a0,.string a1] w fun e w' => ∃ ac : Value,e = .returned (ac) ∧ Kd.R Kd.string 9 w' w.heap.size (fun _ => True) ac r ∧ Below w.heap.size w w' := by
 have HB := aK (Below.refl w.heap.size w)
 have H : ((strings_genSplit.f k a0 a1 0 (-1)).bind fun aa => (some aa)) = some r := h
 clear h
 replace H := Option.bind_eq_some_iff.mp H
 obtain ⟨aa,ad,H⟩ := H
 have A3 := aK ad
 clear ad
 obtain rfl := Option.some.inj H
 go_enter Tryz.func67,Tryz.ntmps67
 go_wp2_with (first|((with_reducible refine gate_callee (f := 91) rfl ?_);refine gL 7 Tryz.func91 #[.string a0,.string a1,.int .i64 0,.int .i64 (-1)] ?_;(with_reducible refine (strings_genSplit.calls k a0 a1 0 (-1) aa _ A3.out).mono ?_);rintro e w4 ⟨af,rfl,ae,hb⟩;refine ⟨_,rfl,?_⟩;have ab := aK (Kd.R_lower ae (below_size (bM HB.out)));replace HB := aK (below_step (bM HB.out) hb);(try clear hb);(try clear ae)))
 go_ret
 exact ⟨_,by first|rfl|(simp [errW_none,errW_some] <;> rfl)|(simp [*,errW_none,errW_some] <;> rfl),rM ab.out,bM HB.out⟩

/-! ### glob_letter: function 68 -/
def glob_letter.f (a0 : Int) : Option (Bool) := if a0 ≥ 97 then (if a0 ≤ 122 then (some true) else (if a0 ≥ 65 then (if a0 ≤ 90 then (some true) else (if a0 ≥ 48 then (if a0 ≤ 57 then (some true) else (if a0 = 46 then (some true) else (if a0 = 95 then (some true) else (some (a0 == 45))))) else (if a0 = 46 then (some true) else (if a0 = 95 then (some true) else (some (a0 == 45)))))) else (if a0 ≥ 48 then (if a0 ≤ 57 then (some true) else (if a0 = 46 then (some true) else (if a0 = 95 then (some true) else (some (a0 == 45))))) else (if a0 = 46 then (some true) else (if a0 = 95 then (some true) else (some (a0 == 45))))))) else (if a0 ≥ 65 then (if a0 ≤ 90 then (some true) else (if a0 ≥ 48 then (if a0 ≤ 57 then (some true) else (if a0 = 46 then (some true) else (if a0 = 95 then (some true) else (some (a0 == 45))))) else (if a0 = 46 then (some true) else (if a0 = 95 then (some true) else (some (a0 == 45)))))) else (if a0 ≥ 48 then (if a0 ≤ 57 then (some true) else (if a0 = 46 then (some true) else (if a0 = 95 then (some true) else (some (a0 == 45))))) else (if a0 = 46 then (some true) else (if a0 = 95 then (some true) else (some (a0 == 45))))))
theorem glob_letter.calls (a0 : Int) (r : Bool) (w : World) (h : glob_letter.f a0 = some r) :
  Calls Tryz.prog 68 #[.int .u8 a0] w fun e w' => e = .returned (.bool r) ∧ Drawn0 w w' := by
 unfold glob_letter.f at h
 have H := h
 clear h
 by_cases c2 : a0 ≥ 97
 ·rw [if_pos c2] at H
  have a9 := decide_eq_true c2
  clear c2
  by_cases c3 : a0 ≤ 122
  ·rw [if_pos c3] at H
   have ba := decide_eq_true c3
   clear c3
   obtain rfl := Option.some.inj H
   go_enter Tryz.func68,Tryz.ntmps68
   go_wp2
   go_ret
   exact ⟨by first|rfl|(simp;done)|(simp [*];done),by repeat (first|exact Drawn0.refl _|apply Drawn0.step)⟩
  ·rw [if_neg c3] at H
   have ba := decide_eq_false c3
   clear c3
   by_cases c4 : a0 ≥ 65
   ·rw [if_pos c4] at H
    have bb := decide_eq_true c4
    clear c4
    by_cases c5 : a0 ≤ 90
    ·rw [if_pos c5] at H
     have bc := decide_eq_true c5
     clear c5
     obtain rfl := Option.some.inj H
     go_enter Tryz.func68,Tryz.ntmps68
     go_wp2
     go_ret
     exact ⟨by first|rfl|(simp;done)|(simp [*];done),by repeat (first|exact Drawn0.refl _|apply Drawn0.step)⟩
    ·rw [if_neg c5] at H
     have bc := decide_eq_false c5
     clear c5
     by_cases c6 : a0 ≥ 48
     ·rw [if_pos c6] at H
      have bd := decide_eq_true c6
      clear c6
      by_cases c7 : a0 ≤ 57
      ·rw [if_pos c7] at H
       have be := decide_eq_true c7
       clear c7
       obtain rfl := Option.some.inj H
       go_enter Tryz.func68,Tryz.ntmps68
       go_wp2
       go_ret
       exact ⟨by first|rfl|(simp;done)|(simp [*];done),by repeat (first|exact Drawn0.refl _|apply Drawn0.step)⟩
      ·rw [if_neg c7] at H
       have be := decide_eq_false c7
       clear c7
       by_cases c8 : a0 = 46
       ·rw [if_pos c8] at H
        have bf := beq_iff_eq.mpr c8
        have bg := bne_eq_false_iff_eq.mpr c8
        clear c8
        obtain rfl := Option.some.inj H
        go_enter Tryz.func68,Tryz.ntmps68
        go_wp2
        go_ret
        exact ⟨by first|rfl|(simp;done)|(simp [*];done),by repeat (first|exact Drawn0.refl _|apply Drawn0.step)⟩
       ·rw [if_neg c8] at H
        have bf := beq_eq_false_iff_ne.mpr c8
        have bg := bne_iff_ne.mpr c8
        by_cases c9 : a0 = 95
        ·rw [if_pos c9] at H
         have bh := beq_iff_eq.mpr c9
         have bi := bne_eq_false_iff_eq.mpr c9
         clear c9
         obtain rfl := Option.some.inj H
         go_enter Tryz.func68,Tryz.ntmps68
         go_wp2
         go_ret
         exact ⟨by first|rfl|(simp;done)|(simp [*];done),by repeat (first|exact Drawn0.refl _|apply Drawn0.step)⟩
        ·rw [if_neg c9] at H
         have bh := beq_eq_false_iff_ne.mpr c9
         have bi := bne_iff_ne.mpr c9
         obtain rfl := Option.some.inj H
         go_enter Tryz.func68,Tryz.ntmps68
         go_wp2
         go_ret
         exact ⟨by first|rfl|(simp;done)|(simp [*];done),by repeat (first|exact Drawn0.refl _|apply Drawn0.step)⟩
     ·rw [if_neg c6] at H
      have bd := decide_eq_false c6
      clear c6
      by_cases c10 : a0 = 46
      ·rw [if_pos c10] at H
       have ax := beq_iff_eq.mpr c10
       have ay := bne_eq_false_iff_eq.mpr c10
       clear c10
       obtain rfl := Option.some.inj H
       go_enter Tryz.func68,Tryz.ntmps68
       go_wp2
       go_ret
       exact ⟨by first|rfl|(simp;done)|(simp [*];done),by repeat (first|exact Drawn0.refl _|apply Drawn0.step)⟩
      ·rw [if_neg c10] at H
       have ax := beq_eq_false_iff_ne.mpr c10
       have ay := bne_iff_ne.mpr c10
       by_cases aa : a0 = 95
       ·rw [if_pos aa] at H
        have az := beq_iff_eq.mpr aa
        have aA := bne_eq_false_iff_eq.mpr aa
        clear aa
        obtain rfl := Option.some.inj H
        go_enter Tryz.func68,Tryz.ntmps68
        go_wp2
        go_ret
        exact ⟨by first|rfl|(simp;done)|(simp [*];done),by repeat (first|exact Drawn0.refl _|apply Drawn0.step)⟩
       ·rw [if_neg aa] at H
        have az := beq_eq_false_iff_ne.mpr aa
        have aA := bne_iff_ne.mpr aa
        obtain rfl := Option.some.inj H
        go_enter Tryz.func68,Tryz.ntmps68
        go_wp2
        go_ret
        exact ⟨by first|rfl|(simp;done)|(simp [*];done),by repeat (first|exact Drawn0.refl _|apply Drawn0.step)⟩
   ·rw [if_neg c4] at H
    have bb := decide_eq_false c4
    clear c4
    by_cases an : a0 ≥ 48
    ·rw [if_pos an] at H
     have aB := decide_eq_true an
     clear an
     by_cases ao : a0 ≤ 57
     ·rw [if_pos ao] at H
      have aC := decide_eq_true ao
      clear ao
      obtain rfl := Option.some.inj H
      go_enter Tryz.func68,Tryz.ntmps68
      go_wp2
      go_ret
      exact ⟨by first|rfl|(simp;done)|(simp [*];done),by repeat (first|exact Drawn0.refl _|apply Drawn0.step)⟩
     ·rw [if_neg ao] at H
      have aC := decide_eq_false ao
      clear ao
      by_cases ab : a0 = 46
      ·rw [if_pos ab] at H
       have aD := beq_iff_eq.mpr ab
       have aE := bne_eq_false_iff_eq.mpr ab
       clear ab
       obtain rfl := Option.some.inj H
       go_enter Tryz.func68,Tryz.ntmps68
       go_wp2
       go_ret
       exact ⟨by first|rfl|(simp;done)|(simp [*];done),by repeat (first|exact Drawn0.refl _|apply Drawn0.step)⟩
      ·rw [if_neg ab] at H
       have aD := beq_eq_false_iff_ne.mpr ab
       have aE := bne_iff_ne.mpr ab
       by_cases ac : a0 = 95
       ·rw [if_pos ac] at H
        have aF := beq_iff_eq.mpr ac
        have aG := bne_eq_false_iff_eq.mpr ac
        clear ac
        obtain rfl := Option.some.inj H
        go_enter Tryz.func68,Tryz.ntmps68
        go_wp2
        go_ret
        exact ⟨by first|rfl|(simp;done)|(simp [*];done),by repeat (first|exact Drawn0.refl _|apply Drawn0.step)⟩
       ·rw [if_neg ac] at H
        have aF := beq_eq_false_iff_ne.mpr ac
        have aG := bne_iff_ne.mpr ac
        obtain rfl := Option.some.inj H
        go_enter Tryz.func68,Tryz.ntmps68
        go_wp2
        go_ret
        exact ⟨by first|rfl|(simp;done)|(simp [*];done),by repeat (first|exact Drawn0.refl _|apply Drawn0.step)⟩
    ·rw [if_neg an] at H
     have aB := decide_eq_false an
     clear an
     by_cases ad : a0 = 46
     ·rw [if_pos ad] at H
      have aH := beq_iff_eq.mpr ad
      have aI := bne_eq_false_iff_eq.mpr ad
      clear ad
      obtain rfl := Option.some.inj H
      go_enter Tryz.func68,Tryz.ntmps68
      go_wp2
      go_ret
      exact ⟨by first|rfl|(simp;done)|(simp [*];done),by repeat (first|exact Drawn0.refl _|apply Drawn0.step)⟩
     ·rw [if_neg ad] at H
      have aH := beq_eq_false_iff_ne.mpr ad
      have aI := bne_iff_ne.mpr ad
      by_cases ae : a0 = 95
      ·rw [if_pos ae] at H
       have aJ := beq_iff_eq.mpr ae
       have aL := bne_eq_false_iff_eq.mpr ae
       clear ae
       obtain rfl := Option.some.inj H
       go_enter Tryz.func68,Tryz.ntmps68
       go_wp2
       go_ret
       exact ⟨by first|rfl|(simp;done)|(simp [*];done),by repeat (first|exact Drawn0.refl _|apply Drawn0.step)⟩
      ·rw [if_neg ae] at H
       have aJ := beq_eq_false_iff_ne.mpr ae
       have aL := bne_iff_ne.mpr ae
       obtain rfl := Option.some.inj H
       go_enter Tryz.func68,Tryz.ntmps68
       go_wp2
       go_ret
       exact ⟨by first|rfl|(simp;done)|(simp [*];done),by repeat (first|exact Drawn0.refl _|apply Drawn0.step)⟩
 ·rw [if_neg c2] at H
  have a9 := decide_eq_false c2
  clear c2
  by_cases ap : a0 ≥ 65
  ·rw [if_pos ap] at H
   have aM := decide_eq_true ap
   clear ap
   by_cases aq : a0 ≤ 90
   ·rw [if_pos aq] at H
    have aN := decide_eq_true aq
    clear aq
    obtain rfl := Option.some.inj H
    go_enter Tryz.func68,Tryz.ntmps68
    go_wp2
    go_ret
    exact ⟨by first|rfl|(simp;done)|(simp [*];done),by repeat (first|exact Drawn0.refl _|apply Drawn0.step)⟩
   ·rw [if_neg aq] at H
    have aN := decide_eq_false aq
    clear aq
    by_cases ar : a0 ≥ 48
    ·rw [if_pos ar] at H
     have aO := decide_eq_true ar
     clear ar
     by_cases au : a0 ≤ 57
     ·rw [if_pos au] at H
      have aP := decide_eq_true au
      clear au
      obtain rfl := Option.some.inj H
      go_enter Tryz.func68,Tryz.ntmps68
      go_wp2
      go_ret
      exact ⟨by first|rfl|(simp;done)|(simp [*];done),by repeat (first|exact Drawn0.refl _|apply Drawn0.step)⟩
     ·rw [if_neg au] at H
      have aP := decide_eq_false au
      clear au
      by_cases af : a0 = 46
      ·rw [if_pos af] at H
       have aQ := beq_iff_eq.mpr af
       have aR := bne_eq_false_iff_eq.mpr af
       clear af
       obtain rfl := Option.some.inj H
       go_enter Tryz.func68,Tryz.ntmps68
       go_wp2
       go_ret
       exact ⟨by first|rfl|(simp;done)|(simp [*];done),by repeat (first|exact Drawn0.refl _|apply Drawn0.step)⟩
      ·rw [if_neg af] at H
       have aQ := beq_eq_false_iff_ne.mpr af
       have aR := bne_iff_ne.mpr af
       by_cases ag : a0 = 95
       ·rw [if_pos ag] at H
        have aS := beq_iff_eq.mpr ag
        have aT := bne_eq_false_iff_eq.mpr ag
        clear ag
        obtain rfl := Option.some.inj H
        go_enter Tryz.func68,Tryz.ntmps68
        go_wp2
        go_ret
        exact ⟨by first|rfl|(simp;done)|(simp [*];done),by repeat (first|exact Drawn0.refl _|apply Drawn0.step)⟩
       ·rw [if_neg ag] at H
        have aS := beq_eq_false_iff_ne.mpr ag
        have aT := bne_iff_ne.mpr ag
        obtain rfl := Option.some.inj H
        go_enter Tryz.func68,Tryz.ntmps68
        go_wp2
        go_ret
        exact ⟨by first|rfl|(simp;done)|(simp [*];done),by repeat (first|exact Drawn0.refl _|apply Drawn0.step)⟩
    ·rw [if_neg ar] at H
     have aO := decide_eq_false ar
     clear ar
     by_cases ah : a0 = 46
     ·rw [if_pos ah] at H
      have aU := beq_iff_eq.mpr ah
      have aV := bne_eq_false_iff_eq.mpr ah
      clear ah
      obtain rfl := Option.some.inj H
      go_enter Tryz.func68,Tryz.ntmps68
      go_wp2
      go_ret
      exact ⟨by first|rfl|(simp;done)|(simp [*];done),by repeat (first|exact Drawn0.refl _|apply Drawn0.step)⟩
     ·rw [if_neg ah] at H
      have aU := beq_eq_false_iff_ne.mpr ah
      have aV := bne_iff_ne.mpr ah
      by_cases ai : a0 = 95
      ·rw [if_pos ai] at H
       have aW := beq_iff_eq.mpr ai
       have aX := bne_eq_false_iff_eq.mpr ai
       clear ai
       obtain rfl := Option.some.inj H
       go_enter Tryz.func68,Tryz.ntmps68
       go_wp2
       go_ret
       exact ⟨by first|rfl|(simp;done)|(simp [*];done),by repeat (first|exact Drawn0.refl _|apply Drawn0.step)⟩
      ·rw [if_neg ai] at H
       have aW := beq_eq_false_iff_ne.mpr ai
       have aX := bne_iff_ne.mpr ai
       obtain rfl := Option.some.inj H
       go_enter Tryz.func68,Tryz.ntmps68
       go_wp2
       go_ret
       exact ⟨by first|rfl|(simp;done)|(simp [*];done),by repeat (first|exact Drawn0.refl _|apply Drawn0.step)⟩
  ·rw [if_neg ap] at H
   have aM := decide_eq_false ap
   clear ap
   by_cases av : a0 ≥ 48
   ·rw [if_pos av] at H
    have aY := decide_eq_true av
    clear av
    by_cases aw : a0 ≤ 57
    ·rw [if_pos aw] at H
     have aZ := decide_eq_true aw
     clear aw
     obtain rfl := Option.some.inj H
     go_enter Tryz.func68,Tryz.ntmps68
     go_wp2
     go_ret
     exact ⟨by first|rfl|(simp;done)|(simp [*];done),by repeat (first|exact Drawn0.refl _|apply Drawn0.step)⟩
    ·rw [if_neg aw] at H
     have aZ := decide_eq_false aw
     clear aw
     by_cases aj : a0 = 46
     ·rw [if_pos aj] at H
      have a1 := beq_iff_eq.mpr aj
      have a2 := bne_eq_false_iff_eq.mpr aj
      clear aj
      obtain rfl := Option.some.inj H
      go_enter Tryz.func68,Tryz.ntmps68
      go_wp2
      go_ret
      exact ⟨by first|rfl|(simp;done)|(simp [*];done),by repeat (first|exact Drawn0.refl _|apply Drawn0.step)⟩
     ·rw [if_neg aj] at H
      have a1 := beq_eq_false_iff_ne.mpr aj
      have a2 := bne_iff_ne.mpr aj
      by_cases ak : a0 = 95
      ·rw [if_pos ak] at H
       have a3 := beq_iff_eq.mpr ak
       have a4 := bne_eq_false_iff_eq.mpr ak
       clear ak
       obtain rfl := Option.some.inj H
       go_enter Tryz.func68,Tryz.ntmps68
       go_wp2
       go_ret
       exact ⟨by first|rfl|(simp;done)|(simp [*];done),by repeat (first|exact Drawn0.refl _|apply Drawn0.step)⟩
      ·rw [if_neg ak] at H
       have a3 := beq_eq_false_iff_ne.mpr ak
       have a4 := bne_iff_ne.mpr ak
       obtain rfl := Option.some.inj H
       go_enter Tryz.func68,Tryz.ntmps68
       go_wp2
       go_ret
       exact ⟨by first|rfl|(simp;done)|(simp [*];done),by repeat (first|exact Drawn0.refl _|apply Drawn0.step)⟩
   ·rw [if_neg av] at H
    have aY := decide_eq_false av
    clear av
    by_cases al : a0 = 46
    ·rw [if_pos al] at H
     have a5 := beq_iff_eq.mpr al
     have a6 := bne_eq_false_iff_eq.mpr al
     clear al
     obtain rfl := Option.some.inj H
     go_enter Tryz.func68,Tryz.ntmps68
     go_wp2
     go_ret
     exact ⟨by first|rfl|(simp;done)|(simp [*];done),by repeat (first|exact Drawn0.refl _|apply Drawn0.step)⟩
    ·rw [if_neg al] at H
     have a5 := beq_eq_false_iff_ne.mpr al
     have a6 := bne_iff_ne.mpr al
     by_cases am : a0 = 95
     ·rw [if_pos am] at H
      have a7 := beq_iff_eq.mpr am
      have a8 := bne_eq_false_iff_eq.mpr am
      clear am
      obtain rfl := Option.some.inj H
      go_enter Tryz.func68,Tryz.ntmps68
      go_wp2
      go_ret
      exact ⟨by first|rfl|(simp;done)|(simp [*];done),by repeat (first|exact Drawn0.refl _|apply Drawn0.step)⟩
     ·rw [if_neg am] at H
      have a7 := beq_eq_false_iff_ne.mpr am
      have a8 := bne_iff_ne.mpr am
      obtain rfl := Option.some.inj H
      go_enter Tryz.func68,Tryz.ntmps68
      go_wp2
      go_ret
      exact ⟨by first|rfl|(simp;done)|(simp [*];done),by repeat (first|exact Drawn0.refl _|apply Drawn0.step)⟩
end Go.Proofs.YtobdkgoapcbipaaGreatDoor.J
