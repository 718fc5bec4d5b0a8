import Derived.Test.YtmgliocboeifdaaGreatDoorFx0
import Derived.Test.YtmgliocboeifdaaGreatDoorFx2
import Derived.Test.YtmgliocboeifdaaGreatDoorFx11
namespace Go.Proofs.YtmgliocboeifdaaGreatDoor.F
open Go.RowKit Go.Proofs.YtmgliocboeifdaaGreatDoorW.PrintWords Go.Proofs.YtmgliocboeifdaaGreatDoorW.PrintLast Go.Proofs.YtmgliocboeifdaaGreatDoorW.PrintMore
set_option maxHeartbeats 4000000
set_option maxRecDepth 100000
attribute [local go_sem] max2_int min2_int max_two min_two max_three min_three max_four min_four
set_option linter.unusedVariables false
set_option linter.unusedSimpArgs false
mutual
def strings_genSplit.j0 : Nat → ByteArray → ByteArray → Int → Int → Option (List ByteArray)
|0,_,_,_,_ => none
|k + 1,x0,x1,x2,x3 => if 0 ≤ (mn x3 (wrap64 ((x0.size : Int) + 1))) then (if (mn x3 (wrap64 ((x0.size : Int) + 1)) : Int).toNat ≤ 17592186044416 then (strings_genSplit.l0 k x0 x1 x2 (wrap64 ((mn x3 (wrap64 ((x0.size : Int) + 1))) - 1)) (List.replicate (mn x3 (wrap64 ((x0.size : Int) + 1)) : Int).toNat (⟨#[]⟩ : ByteArray)) 0) else (none)) else (none)
def strings_genSplit.l0 : Nat → ByteArray → ByteArray → Int → Int → List ByteArray → Int → Option (List ByteArray)
|0,_,_,_,_,_,_ => none
|k + 1,x0,x1,x2,x3,x9,aa => if aa < x3 then ((strings_Index.f x0 x1).bind fun ab => (if ab < 0 then (if 0 ≤ aa then (if aa < (x9.length : Int) then (if 0 ≤ (wrap64 (aa + 1)) then (if (wrap64 (aa + 1)) ≤ (x9.length : Int) then (some ((x9.set (aa : Int).toNat x0).take ((wrap64 (aa + 1)) : Int).toNat)) else (none)) else (none)) else (none)) else (none)) else (if 0 ≤ (wrap64 (ab + x2)) then (if (wrap64 (ab + x2)) ≤ (x0.size : Int) then (if 0 ≤ aa then (if aa < (x9.length : Int) then (if 0 ≤ (wrap64 (ab + (x1.size : Int))) then (if (wrap64 (ab + (x1.size : Int))) ≤ (x0.size : Int) then (strings_genSplit.l0 k (x0.extract ((wrap64 (ab + (x1.size : Int))) : Int).toNat x0.size) x1 x2 x3 (x9.set (aa : Int).toNat (x0.extract 0 ((wrap64 (ab + x2)) : Int).toNat)) (wrap64 (aa + 1))) else (none)) else (none)) else (none)) else (none)) else (none)) else (none)))) else (if 0 ≤ aa then (if aa < (x9.length : Int) then (if 0 ≤ (wrap64 (aa + 1)) then (if (wrap64 (aa + 1)) ≤ (x9.length : Int) then (some ((x9.set (aa : Int).toNat x0).take ((wrap64 (aa + 1)) : Int).toNat)) else (none)) else (none)) else (none)) else (none))
end
def strings_genSplit.f (k : Nat) (a0 : ByteArray) (a1 : ByteArray) (a2 : Int) (a3 : Int) : Option (List ByteArray) := if a3 = 0 then (some ([] : List ByteArray)) else (if a1.toList = ([] : List UInt8) then ((strings_explode.f a0 a3).bind fun aa => (some aa)) else (if a3 < 0 then ((strings_Count.f a0 a1).bind fun ab => (strings_genSplit.j0 k a0 a1 a2 (wrap64 (ab + 1)))) else (strings_genSplit.j0 k a0 a1 a2 a3)))
theorem strings_genSplit.mono_l : ∀ k, (∀ y0 y1 y2 y3, LeO (strings_genSplit.j0 k y0 y1 y2 y3) (strings_genSplit.j0 (k + 1) y0 y1 y2 y3)) ∧ (∀ y0 y1 y2 y3 y4 y5, LeO (strings_genSplit.l0 k y0 y1 y2 y3 y4 y5) (strings_genSplit.l0 (k + 1) y0 y1 y2 y3 y4 y5))
|0 => ⟨fun _ _ _ _ r h => by simp [strings_genSplit.j0] at h,fun _ _ _ _ _ _ r h => by simp [strings_genSplit.l0] at h⟩
|k + 1 => by
  obtain ⟨ih0,ih1⟩ := strings_genSplit.mono_l k
  refine ⟨?_,?_⟩
  ·intro y0 y1 y2 y3
   unfold strings_genSplit.j0
   repeat' (with_reducible first|exact ih1 _ _ _ _ _ _|exact LeO.refl _|exact LeO.none _|refine LeO.ite ?_ ?_|refine LeO.bind ?_ (fun _ => ?_))
  ·intro y0 y1 y2 y3 y4 y5
   unfold strings_genSplit.l0
   repeat' (with_reducible first|exact ih1 _ _ _ _ _ _|exact LeO.refl _|exact LeO.none _|refine LeO.ite ?_ ?_|refine LeO.bind ?_ (fun _ => ?_))
theorem strings_genSplit.mono : ∀ a0 a1 a2 a3 k, LeO (strings_genSplit.f k a0 a1 a2 a3) (strings_genSplit.f (k + 1) a0 a1 a2 a3) := by
 intro a0 a1 a2 a3 k
 obtain ⟨ih0,ih1⟩ := strings_genSplit.mono_l k
 unfold strings_genSplit.f
 repeat' (with_reducible first|exact ih0 _ _ _ _|exact ih1 _ _ _ _ _ _|exact LeO.refl _|exact LeO.none _|refine LeO.ite ?_ ?_|refine LeO.bind ?_ (fun _ => ?_))
theorem strings_genSplit.calls (k : Nat) (a0 : ByteArray) (a1 : ByteArray) (a2 : Int) (a3 : Int) (r : List ByteArray) (w : World) (h : strings_genSplit.f k a0 a1 a2 a3 = some r) :
  Calls Tryz.prog 98 #[.string a0,.string a1,.int .i64 a2,.int .i64 a3] w fun e w' => ∃ ct : Value,e = .returned (ct) ∧ Kd.R Kd.string 9 w' w.heap.size (fun _ => True) ct r ∧ Below w.heap.size w w' := by
 have HB := aK (Below.refl w.heap.size w)
 unfold strings_genSplit.f at h
 have H := h
 clear h
 by_cases c5 : a3 = 0
 ·rw [if_pos c5] at H
  have a4 := beq_iff_eq.mpr c5
  have a5 := bne_eq_false_iff_eq.mpr c5
  clear c5
  obtain rfl := Option.some.inj H
  go_enter Tryz.func98,Tryz.ntmps98
  go_wp2
  go_ret
  exact ⟨_,by first|rfl|(simp [errW_none,errW_some] <;> rfl)|(simp [*,errW_none,errW_some] <;> rfl),by first|exact Kd.R_nil _ _ _ _ _|exact Kd.N_nil _ _ _ _ _|exact Kd.V_nil _ _ _ _ _|exact Kd.Q_nil _ _ _ _ _|exact Kd.S_nil _ _ _ _ _,bM HB.out⟩
 ·rw [if_neg c5] at H
  have a4 := beq_eq_false_iff_ne.mpr c5
  have a5 := bne_iff_ne.mpr c5
  by_cases c6 : a1.toList = ([] : List UInt8)
  ·rw [if_pos c6] at H
   have a6 := beq_iff_eq.mpr c6
   have a7 := bne_eq_false_iff_eq.mpr c6
   clear c6
   replace H := Option.bind_eq_some_iff.mp H
   obtain ⟨bP,cu,H⟩ := H
   have A7 := aK cu
   clear cu
   obtain rfl := Option.some.inj H
   go_enter Tryz.func98,Tryz.ntmps98
   go_wp2_with (first|((with_reducible refine gate_callee (f := 114) rfl ?_);refine gL 18 Tryz.func114 #[.string a0,.int .i64 a3] ?_;(with_reducible refine (strings_explode.calls a0 a3 bP _ A7.out).mono ?_);rintro e w8 ⟨dd,rfl,cv,hb⟩;refine ⟨_,rfl,?_⟩;have a8 := aK (Kd.R_lower cv (below_size (bM HB.out)));replace HB := aK (below_step (bM HB.out) hb);(try clear hb);(try clear hk);(try clear cv)))
   go_ret
   exact ⟨_,by first|rfl|(simp [errW_none,errW_some] <;> rfl)|(simp [*,errW_none,errW_some] <;> rfl),rM a8.out,bM HB.out⟩
  ·rw [if_neg c6] at H
   have a6 := beq_eq_false_iff_ne.mpr c6
   have a7 := bne_iff_ne.mpr c6
   have bQ := aK H
   clear H
   go_enter Tryz.func98,Tryz.ntmps98
   go_upto_if 20 with (fail)
   go_cut [3] (fun v3 wc => ∃ (kq : Nat) (ay : Int),v3 = .int .i64 ay ∧ Aside0 (strings_genSplit.j0 kq a0 a1 a2 ay = some r) ∧ Aside0 (kq ≤ k) ∧ Aside0 (Below w.heap.size w wc))
   case first =>
    have H := bQ.out
    clear bQ
    by_cases c10 : a3 < 0
    ·rw [if_pos c10] at H
     have aj := decide_eq_true c10
     clear c10
     (first|rw [aj]|(simp only [i64_w,i32_w];rw [aj])|rw [c10b1]|skip)
     replace H := Option.bind_eq_some_iff.mp H
     obtain ⟨a9,ba,H⟩ := H
     have de := aK ba
     clear ba
     have H' := aK H
     clear H
     go_wp2_with (first|((with_reducible refine gate_callee (f := 115) rfl ?_);refine gL 23 Tryz.func115 #[.string a0,.string a1] ?_;(with_reducible refine (strings_Count.calls a0 a1 a9 _ de.out).mono ?_);rintro e w' ⟨rfl,⟨nd,rfl⟩⟩;refine ⟨_,rfl,?_⟩))
     go_meet
     case rel => exact ⟨_,(wrap64 (a9 + 1)),(by first|rfl|(simp;done)|(simp [*];done)),H',⟨by first|omega|exact Nat.le_refl _⟩,⟨bM HB.out⟩⟩
    ·rw [if_neg c10] at H
     have aj := decide_eq_false c10
     clear c10
     (first|rw [aj]|(simp only [i64_w,i32_w];rw [aj])|rw [c10b1]|skip)
     have H' := aK H
     clear H
     go_wp2
     go_meet
     case rel => exact ⟨_,(a3),(by first|rfl|(simp;done)|(simp [*];done)),H',⟨by first|omega|exact Nat.le_refl _⟩,⟨bM HB.out⟩⟩
   case rest =>
    clear bQ
    try clear p2
    try clear c5
    try clear a4
    try clear a5
    try clear c6
    try clear a6
    try clear a7
    try clear p6
    obtain ⟨kq,ay,rfl,HA,cw,HB⟩ := hcut
    cases kq with
   |zero => exact absurd HA.out (by simp [strings_genSplit.j0])
   |succ kj8 =>
     have H := HA.out
     clear HA
     simp only [strings_genSplit.j0] at H
     obtain ⟨ae,ak⟩ : ∃ j_ : Int,(mn ay (wrap64 ((a0.size : Int) + 1))) = j_ := ⟨_,rfl⟩
     replace H : (if 0 ≤ (ae) then (if (ae : Int).toNat ≤ 17592186044416 then (strings_genSplit.l0 kj8 a0 a1 a2 (wrap64 ((ae) - 1)) (List.replicate (ae : Int).toNat (⟨#[]⟩ : ByteArray)) 0) else (none)) else (none)) = some r := by first|(rw [ak] at H;exact H)|(simp only [ak] at H ⊢;exact H)
     have bR : (if (wrap64 ((a0.size : Int) + 1)) < ay then (wrap64 ((a0.size : Int) + 1)) else ay) = ae := ak
     by_cases aX : 0 ≤ (ae)
     ·rw [if_pos aX] at H
      have bb := eq_true aX
      have bc := decide_eq_true aX
      clear aX
      obtain ⟨bO,H⟩ := iS H
      have bd := eq_true bO
      have be := decide_eq_true bO
      clear bO
      obtain ⟨bf,al⟩ : ∃ y_ : List ByteArray,y_ = (List.replicate (ae : Int).toNat (⟨#[]⟩ : ByteArray)) := ⟨_,rfl⟩
      replace H : (strings_genSplit.l0 kj8 a0 a1 a2 (wrap64 ((ae) - 1)) bf 0) = some r := by first|(rw [al];with_reducible exact H)|(have ag := (Option.bind_some _ _).symm.trans H;rw [al];with_reducible exact ag)|(have ag := (Option.bind_some _ _).symm.trans H;with_reducible exact ag)|with_reducible exact H|(rw [al];exact H)|exact H
      have aI := aK al
      clear al
      have H' := aK H
      clear H
      go_wp2_with (first|((with_reducible refine gate_dst (N := 31) rfl ?_);refine Kd.R_make Kd.string _ 9 rfl (N := 31) rfl 28 _ _ rfl ae rfl rfl Tryz.underlying28 (.string ⟨#[]⟩) 16 info9 rfl (by decide) (by omega) (⟨#[]⟩ : ByteArray) (ok := fun _ => True) (okp := fun _ => True) rfl (fun _ hk => hk) trivial (dA) (Nat.le_trans (Nat.mul_le_mul_right _ (dA : ae.toNat ≤ 17592186044416)) (by omega)) (Below.refl _ _) (Nat.le_refl _) ?_;intro aQ dp az hb hg_ hnew_;clear hg_ hnew_;(first|rw [← aI.out] at az|(simp only [Int.reduceToNat] at az;rw [← aI.out] at az));have bg := aK (Kd.R_lower az (below_size (bM HB.out)));replace HB := aK (below_step (bM HB.out) hb);clear hb az))
      go_loopg [0,10] kj8 (fun kq v0 df w' => ∃ (ab : ByteArray) (ad : List ByteArray) (aa : Int),v0 = .string ab ∧ df = .int .i64 aa ∧ Aside0 (strings_genSplit.l0 kq ab a1 a2 (wrap64 ((ae) - 1)) ad aa = some r) ∧ Aside0 (kq ≤ kj8) ∧ Aside0 (Kd.R Kd.string 9 w' w.heap.size (fun _ => True) aQ ad) ∧ Aside0 (Below w.heap.size w w'))
      case atStart => exact ⟨(a0),(bf),(0),(by first|rfl|(simp;done)|(simp [*];done)),(by first|rfl|(simp;done)|(simp [*];done)),H',⟨Nat.le_refl _⟩,⟨rM bg.out⟩,⟨bM HB.out⟩⟩
      case round =>
       clear H'
       try clear p2
       try clear p6
       try clear aX
       try clear bb
       try clear bc
       try clear bO
       try clear bd
       try clear be
       try clear p2
       try clear p6
       obtain ⟨ab,ad,aa,rfl,rfl,HA,cx,ac,HB⟩ := hrel
       cases gk with
      |zero => exact absurd HA.out (by simp [strings_genSplit.l0])
      |succ k2 =>
        have H := HA.out
        clear HA
        simp only [strings_genSplit.l0] at H
        by_cases aY : aa < (wrap64 ((ae) - 1))
        ·rw [if_pos aY] at H
         have bh := decide_eq_true aY
         clear aY
         replace H := Option.bind_eq_some_iff.mp H
         obtain ⟨af,bi,H⟩ := H
         have bj := aK bi
         clear bi
         by_cases aZ : af < 0
         ·rw [if_pos aZ] at H
          have bk := decide_eq_true aZ
          clear aZ
          obtain ⟨cy,H⟩ := iS H
          have cz := decide_eq_true cy
          clear cy
          obtain ⟨cA,H⟩ := iS H
          have cB := decide_eq_true cA
          clear cA
          obtain ⟨aB,am⟩ : ∃ y_ : List ByteArray,y_ = (ad.set (aa : Int).toNat ab) := ⟨_,rfl⟩
          replace H : (if 0 ≤ (wrap64 (aa + 1)) then (if (wrap64 (aa + 1)) ≤ (ad.length : Int) then (some (aB.take ((wrap64 (aa + 1)) : Int).toNat)) else (none)) else (none)) = some r := by first|(rw [am];with_reducible exact H)|(have ag := (Option.bind_some _ _).symm.trans H;rw [am];with_reducible exact ag)|(have ag := (Option.bind_some _ _).symm.trans H;with_reducible exact ag)|with_reducible exact H|(rw [am];exact H)|exact H
          have aJ := aK am
          clear am
          obtain ⟨ah,an⟩ : ∃ j_ : Int,(wrap64 (aa + 1)) = j_ := ⟨_,rfl⟩
          replace H : (if 0 ≤ (ah) then (if (ah) ≤ (ad.length : Int) then (some (aB.take ((ah) : Int).toNat)) else (none)) else (none)) = some r := by first|(rw [an] at H;exact H)|(simp only [an] at H ⊢;exact H)
          (try rw [an] at bj)
          have bS : (IntKind.i64.wrap (aa + 1)) = ah := (i64_w _).trans an
          obtain ⟨bT,H⟩ := iS H
          have cC := eq_true bT
          have cD := decide_eq_true bT
          clear bT
          obtain ⟨bU,H⟩ := iS H
          have cE := eq_true bU
          have cF := decide_eq_true bU
          clear bU
          obtain ⟨bm,ao⟩ : ∃ y_ : List ByteArray,y_ = (aB.take ((ah) : Int).toNat) := ⟨_,rfl⟩
          replace H : (some bm) = some r := by first|(rw [ao];with_reducible exact H)|(have ag := (Option.bind_some _ _).symm.trans H;rw [ao];with_reducible exact ag)|(have ag := (Option.bind_some _ _).symm.trans H;with_reducible exact ag)|with_reducible exact H|(rw [ao];exact H)|exact H
          have aL := aK ao
          clear ao
          obtain rfl := Option.some.inj H
          go_wp2_with (first|((with_reducible refine gate_callee (f := 88) rfl ?_);refine gL 39 Tryz.func88 #[.string ab,.string a1] ?_;(with_reducible refine (strings_Index.calls ab a1 af _ bj.out).mono ?_);rintro e w' ⟨rfl,⟨nd,rfl⟩⟩;refine ⟨_,rfl,?_⟩;(try (rw [drewN_self wr];generalize hq_ : World.drewN wr _ = wr;have bn : Aside0 (Kd.R Kd.string 9 wr w.heap.size (fun _ => True) aQ ad) := ⟨by rw [← hq_];exact (rM ac.out)⟩;have bo : Aside0 (Below w.heap.size w wr) := ⟨by rw [← hq_];exact (bM HB.out)⟩;clear ac HB hq_;have ac := bn;have HB := bo;clear bn bo));have bV : 0 ≤ (aa : Int) := dA;have bW : (aa : Int) < ((ad.length : Int) : Int) := dA;obtain ⟨aC,bp,bq,br,bX,dg,bs⟩ := Kd.R_form ac.out (by omega);(first|cases bq|(injection bq with ea_ en_ ec_;(first|subst ea_|(injection ea_ with ea_;subst ea_));subst ec_;clear en_));have bY := aK br;have dh := aK bs;clear br bX bs;obtain ⟨bZ,b0⟩ := Kd.R_celln (⟨#[]⟩ : ByteArray) ac.out (aa : Int) bV bW;replace bV := eq_true bV;replace bW := eq_true bW;obtain ⟨cG,cH⟩ := Kd.R_celln (⟨#[]⟩ : ByteArray) ac.out (aa : Int) (dA) (dA);have aR := Kd.R_putg ac.out (aa : Int) ab)|((with_reducible refine gate_store (t := 9) (p := 61) rfl ?_);refine store_event (t := 9) (p := 61) (v := ?b1) (w1 := (wr.setCell ⟨aC,(aa : Int).toNat,none⟩ (.string ab))) ?hg ?ho ?hn ?hr ?_;(case ho => rfl);(case hg => rfl);(case hn => rfl);(case hr => first|(go_simp;done)|(go_simp;rfl));intro b2 hw;have hg : wr.grownBy b2 (some aC) := (by rw [hw];exact aR.2);have hp_ : Kd.R Kd.string 9 b2 w.heap.size (fun _ => True) (.slice (some ⟨aC,0,none⟩) ad.length bp) aB := (by rw [hw,aJ.out];exact aR.1);clear aR;replace ac := aK (hp_);replace HB := aK ((by rw [hw];exact below_set (HB.out) bY.out : Below w.heap.size w b2));clear hg hw hp_;have hyl_ := congrArg List.length aJ.out;rw [List.length_set] at hyl_;have b3 : ((ah) : Int) ≤ ((ad.length : Int) : Int) := dA;obtain ⟨di,aM,_,bu,_⟩ := info_parts info9;have aS := cut_to (P := Tryz.prog) 28 9 .i64 Tryz.underlying28 aM (some ⟨aC,0,none⟩) ad.length bp (ah) (dA) b3 (Kd.R_reads' ac.out).2.1;have aD := Kd.R_take (m := ((ah) : Int).toNat) ac.out (by omega);have bv : bm.length = ((ah) : Int).toNat := (by rw [aL.out,List.length_take];omega);rw [← aL.out] at aD;rw [← bv] at aD aS;clear hyl_ bv aM bu ac;have bx := aK aD;clear aD;replace b3 := eq_true b3))
          go_ret
          exact ⟨_,by first|rfl|(simp [errW_none,errW_some] <;> rfl)|(simp only [← ak,← an];first|rfl|(simp [errW_none,errW_some] <;> rfl))|(simp [*,errW_none,errW_some] <;> rfl),rM bx.out,bM HB.out⟩
         ·rw [if_neg aZ] at H
          have bk := decide_eq_false aZ
          clear aZ
          obtain ⟨av,aw⟩ : ∃ j_ : Int,(wrap64 (af + a2)) = j_ := ⟨_,rfl⟩
          replace H : (if 0 ≤ (av) then (if (av) ≤ (ab.size : Int) then (if 0 ≤ aa then (if aa < (ad.length : Int) then (if 0 ≤ (wrap64 (af + (a1.size : Int))) then (if (wrap64 (af + (a1.size : Int))) ≤ (ab.size : Int) then (strings_genSplit.l0 k2 (ab.extract ((wrap64 (af + (a1.size : Int))) : Int).toNat ab.size) a1 a2 (wrap64 ((ae) - 1)) (ad.set (aa : Int).toNat (ab.extract 0 ((av) : Int).toNat)) (wrap64 (aa + 1))) else (none)) else (none)) else (none)) else (none)) else (none)) else (none)) = some r := by first|(rw [aw] at H;exact H)|(simp only [aw] at H ⊢;exact H)
          (try rw [aw] at bj)
          have b4 : (IntKind.i64.wrap (af + a2)) = av := (i64_w _).trans aw
          obtain ⟨b5,H⟩ := iS H
          have cI := eq_true b5
          have cJ := decide_eq_true b5
          clear b5
          obtain ⟨c31,H⟩ := iS H
          have cK := eq_true c31
          have cL := decide_eq_true c31
          clear c31
          obtain ⟨cN,H⟩ := iS H
          have cO := decide_eq_true cN
          clear cN
          obtain ⟨cP,H⟩ := iS H
          have cQ := decide_eq_true cP
          clear cP
          obtain ⟨aE,ap⟩ : ∃ y_ : List ByteArray,y_ = (ad.set (aa : Int).toNat (ab.extract 0 ((av) : Int).toNat)) := ⟨_,rfl⟩
          replace H : (if 0 ≤ (wrap64 (af + (a1.size : Int))) then (if (wrap64 (af + (a1.size : Int))) ≤ (ab.size : Int) then (strings_genSplit.l0 k2 (ab.extract ((wrap64 (af + (a1.size : Int))) : Int).toNat ab.size) a1 a2 (wrap64 ((ae) - 1)) aE (wrap64 (aa + 1))) else (none)) else (none)) = some r := by first|(rw [ap];with_reducible exact H)|(have ag := (Option.bind_some _ _).symm.trans H;rw [ap];with_reducible exact ag)|(have ag := (Option.bind_some _ _).symm.trans H;with_reducible exact ag)|with_reducible exact H|(rw [ap];exact H)|exact H
          have bz := aK ap
          clear ap
          obtain ⟨aA,aq⟩ : ∃ j_ : Int,(wrap64 (af + (a1.size : Int))) = j_ := ⟨_,rfl⟩
          replace H : (if 0 ≤ (aA) then (if (aA) ≤ (ab.size : Int) then (strings_genSplit.l0 k2 (ab.extract ((aA) : Int).toNat ab.size) a1 a2 (wrap64 ((ae) - 1)) aE (wrap64 (aa + 1))) else (none)) else (none)) = some r := by first|(rw [aq] at H;exact H)|(simp only [aq] at H ⊢;exact H)
          (try rw [aq] at bj)
          have b6 : (IntKind.i64.wrap (af + (a1.size : Int))) = aA := (i64_w _).trans aq
          obtain ⟨c36,H⟩ := iS H
          have cR := eq_true c36
          have cS := decide_eq_true c36
          clear c36
          obtain ⟨b7,H⟩ := iS H
          have cT := eq_true b7
          have cU := decide_eq_true b7
          clear b7
          have H' := aK H
          clear H
          go_wp2_with (first|((with_reducible refine gate_callee (f := 88) rfl ?_);refine gL 39 Tryz.func88 #[.string ab,.string a1] ?_;(with_reducible refine (strings_Index.calls ab a1 af _ bj.out).mono ?_);rintro e w' ⟨rfl,⟨nd,rfl⟩⟩;refine ⟨_,rfl,?_⟩;(try (rw [drewN_self wr];generalize hq_ : World.drewN wr _ = wr;have bn : Aside0 (Kd.R Kd.string 9 wr w.heap.size (fun _ => True) aQ ad) := ⟨by rw [← hq_];exact (rM ac.out)⟩;have bo : Aside0 (Below w.heap.size w wr) := ⟨by rw [← hq_];exact (bM HB.out)⟩;clear ac HB hq_;have ac := bn;have HB := bo;clear bn bo));have b8 : 0 ≤ (aa : Int) := dA;have b9 : (aa : Int) < ((ad.length : Int) : Int) := dA;obtain ⟨aT,ca,bB,bC,cb,dj,bD⟩ := Kd.R_form ac.out (by omega);(first|cases bB|(injection bB with ea_ en_ ec_;(first|subst ea_|(injection ea_ with ea_;subst ea_));subst ec_;clear en_));have cc := aK bC;have dk := aK bD;clear bC cb bD;obtain ⟨cd,ce⟩ := Kd.R_celln (⟨#[]⟩ : ByteArray) ac.out (aa : Int) b8 b9;replace b8 := eq_true b8;replace b9 := eq_true b9;obtain ⟨cV,cW⟩ := Kd.R_celln (⟨#[]⟩ : ByteArray) ac.out (aa : Int) (dA) (dA);have aU := Kd.R_putg ac.out (aa : Int) (ab.extract 0 ((av) : Int).toNat))|((with_reducible refine gate_store (t := 9) (p := 49) rfl ?_);refine store_event (t := 9) (p := 49) (v := ?cf) (w1 := (wr.setCell ⟨aT,(aa : Int).toNat,none⟩ (.string (ab.extract 0 ((av) : Int).toNat)))) ?hg ?ho ?hn ?hr ?_;(case ho => rfl);(case hg => rfl);(case hn => rfl);(case hr => first|(go_simp;done)|(go_simp;rfl));intro cg hw;have hg : wr.grownBy cg (some aT) := (by rw [hw];exact aU.2);have hp_ : Kd.R Kd.string 9 cg w.heap.size (fun _ => True) (.slice (some ⟨aT,0,none⟩) ad.length ca) aE := (by rw [hw,bz.out];exact aU.1);clear aU;replace ac := aK (hp_);replace HB := aK ((by rw [hw];exact below_set (HB.out) cc.out : Below w.heap.size w cg));clear hg hw hp_))
          go_roundg k2
          case measure => have := cw.out;have := cx.out;omega
          case rel => exact ⟨(ab.extract ((aA) : Int).toNat ab.size),(aE),(wrap64 (aa + 1)),(by first|rfl|(simp;done)|(rw [Int.tdiv_eq_ediv_of_nonneg (by assumption)];done)|(rw [Int.tmod_eq_emod_of_nonneg (by assumption)];done)|(simp only [← aq] <;> (first|rfl|simp))|(simp [*];done)),(by first|rfl|(simp;done)|(simp [*];done)),H',⟨by have := cw.out;have := cx.out;omega⟩,⟨rM ac.out⟩,⟨bM HB.out⟩⟩
        ·rw [if_neg aY] at H
         have bh := decide_eq_false aY
         clear aY
         obtain ⟨cX,H⟩ := iS H
         have cY := decide_eq_true cX
         clear cX
         obtain ⟨cZ,H⟩ := iS H
         have c0 := decide_eq_true cZ
         clear cZ
         obtain ⟨aF,ar⟩ : ∃ y_ : List ByteArray,y_ = (ad.set (aa : Int).toNat ab) := ⟨_,rfl⟩
         replace H : (if 0 ≤ (wrap64 (aa + 1)) then (if (wrap64 (aa + 1)) ≤ (ad.length : Int) then (some (aF.take ((wrap64 (aa + 1)) : Int).toNat)) else (none)) else (none)) = some r := by first|(rw [ar];with_reducible exact H)|(have ag := (Option.bind_some _ _).symm.trans H;rw [ar];with_reducible exact ag)|(have ag := (Option.bind_some _ _).symm.trans H;with_reducible exact ag)|with_reducible exact H|(rw [ar];exact H)|exact H
         have aN := aK ar
         clear ar
         obtain ⟨ai,ax⟩ : ∃ j_ : Int,(wrap64 (aa + 1)) = j_ := ⟨_,rfl⟩
         replace H : (if 0 ≤ (ai) then (if (ai) ≤ (ad.length : Int) then (some (aF.take ((ai) : Int).toNat)) else (none)) else (none)) = some r := by first|(rw [ax] at H;exact H)|(simp only [ax] at H ⊢;exact H)
         have ch : (IntKind.i64.wrap (aa + 1)) = ai := (i64_w _).trans ax
         obtain ⟨ci,H⟩ := iS H
         have c1 := eq_true ci
         have da := decide_eq_true ci
         clear ci
         obtain ⟨cj,H⟩ := iS H
         have db := eq_true cj
         have dc := decide_eq_true cj
         clear cj
         obtain ⟨bE,au⟩ : ∃ y_ : List ByteArray,y_ = (aF.take ((ai) : Int).toNat) := ⟨_,rfl⟩
         replace H : (some bE) = some r := by first|(rw [au];with_reducible exact H)|(have ag := (Option.bind_some _ _).symm.trans H;rw [au];with_reducible exact ag)|(have ag := (Option.bind_some _ _).symm.trans H;with_reducible exact ag)|with_reducible exact H|(rw [au];exact H)|exact H
         have aO := aK au
         clear au
         obtain rfl := Option.some.inj H
         have ck : 0 ≤ (aa : Int) := dA
         have cl : (aa : Int) < ((ad.length : Int) : Int) := dA
         obtain ⟨aG,bF,bH,bI,cm,dl,bJ⟩ := Kd.R_form ac.out (by omega)
         (first|cases bH|(injection bH with ea_ en_ ec_;(first|subst ea_|(injection ea_ with ea_;subst ea_));subst ec_;clear en_))
         have cn := aK bI
         have dm := aK bJ
         clear bI cm bJ
         obtain ⟨co,cp⟩ := Kd.R_celln (⟨#[]⟩ : ByteArray) ac.out (aa : Int) ck cl
         replace ck := eq_true ck
         replace cl := eq_true cl
         have aV := Kd.R_putg ac.out (aa : Int) ab
         go_wp2_with (first|((with_reducible refine gate_store (t := 9) (p := 61) rfl ?_);refine store_event (t := 9) (p := 61) (v := ?cq) (w1 := (wr.setCell ⟨aG,(aa : Int).toNat,none⟩ (.string ab))) ?hg ?ho ?hn ?hr ?_;(case ho => rfl);(case hg => rfl);(case hn => rfl);(case hr => first|(go_simp;done)|(go_simp;rfl));intro cr hw;have hg : wr.grownBy cr (some aG) := (by rw [hw];exact aV.2);have hp_ : Kd.R Kd.string 9 cr w.heap.size (fun _ => True) (.slice (some ⟨aG,0,none⟩) ad.length bF) aF := (by rw [hw,aN.out];exact aV.1);clear aV;replace ac := aK (hp_);replace HB := aK ((by rw [hw];exact below_set (HB.out) cn.out : Below w.heap.size w cr));clear hg hw hp_;have hyl_ := congrArg List.length aN.out;rw [List.length_set] at hyl_;have cs : ((ai) : Int) ≤ ((ad.length : Int) : Int) := dA;obtain ⟨dn,aP,_,bK,_⟩ := info_parts info9;have aW := cut_to (P := Tryz.prog) 28 9 .i64 Tryz.underlying28 aP (some ⟨aG,0,none⟩) ad.length bF (ai) (dA) cs (Kd.R_reads' ac.out).2.1;have aH := Kd.R_take (m := ((ai) : Int).toNat) ac.out (by omega);have bL : bE.length = ((ai) : Int).toNat := (by rw [aO.out,List.length_take];omega);rw [← aO.out] at aH;rw [← bL] at aH aW;clear hyl_ bL aP bK ac;have bN := aK aH;clear aH;replace cs := eq_true cs))
         go_ret
         exact ⟨_,by first|rfl|(simp [errW_none,errW_some] <;> rfl)|(simp only [← ak,← ax];first|rfl|(simp [errW_none,errW_some] <;> rfl))|(simp [*,errW_none,errW_some] <;> rfl),rM bN.out,bM HB.out⟩
     ·rw [if_neg aX] at H
      exact absurd H (by simp)
def strings_Split.f (k : Nat) (a0 : ByteArray) (a1 : ByteArray) : Option (List ByteArray) := (strings_genSplit.f k a0 a1 0 (-1)).bind fun aa => (some aa)
theorem strings_Split.mono : ∀ a0 a1 k, LeO (strings_Split.f k a0 a1) (strings_Split.f (k + 1) a0 a1) := by
 intro a0 a1 k
 unfold strings_Split.f
 repeat' (with_reducible first|exact strings_genSplit.mono _ _ _ _ _|exact LeO.refl _|exact LeO.none _|refine LeO.ite ?_ ?_|refine LeO.bind ?_ (fun _ => ?_))
theorem strings_Split.calls (k : Nat) (a0 : ByteArray) (a1 : ByteArray) (r : List ByteArray) (w : World) (h : strings_Split.f k a0 a1 = some r) :
  Calls Tryz.prog 89 #[.string a0,.string a1] w fun e w' => ∃ ac : Value,e = .returned (ac) ∧ Kd.R Kd.string 9 w' w.heap.size (fun _ => True) ac r ∧ Below w.heap.size w w' := by
 have HB := aK (Below.refl w.heap.size w)
 have H : ((strings_genSplit.f k a0 a1 0 (-1)).bind fun aa => (some aa)) = some r := h
 clear h
 replace H := Option.bind_eq_some_iff.mp H
 obtain ⟨aa,ad,H⟩ := H
 have A3 := aK ad
 clear ad
 obtain rfl := Option.some.inj H
 go_enter Tryz.func89,Tryz.ntmps89
 go_wp2_with (first|((with_reducible refine gate_callee (f := 98) rfl ?_);refine gL 7 Tryz.func98 #[.string a0,.string a1,.int .i64 0,.int .i64 (-1)] ?_;(with_reducible refine (strings_genSplit.calls k a0 a1 0 (-1) aa _ A3.out).mono ?_);rintro e w4 ⟨af,rfl,ae,hb⟩;refine ⟨_,rfl,?_⟩;have ab := aK (Kd.R_lower ae (below_size (bM HB.out)));replace HB := aK (below_step (bM HB.out) hb);(try clear hb);(try clear ae)))
 go_ret
 exact ⟨_,by first|rfl|(simp [errW_none,errW_some] <;> rfl)|(simp [*,errW_none,errW_some] <;> rfl),rM ab.out,bM HB.out⟩
def glob_letter.f (a0 : Int) : Option (Bool) := if a0 ≥ 97 then (if a0 ≤ 122 then (some true) else (if a0 ≥ 65 then (if a0 ≤ 90 then (some true) else (if a0 ≥ 48 then (if a0 ≤ 57 then (some true) else (if a0 = 46 then (some true) else (if a0 = 95 then (some true) else (some (a0 == 45))))) else (if a0 = 46 then (some true) else (if a0 = 95 then (some true) else (some (a0 == 45)))))) else (if a0 ≥ 48 then (if a0 ≤ 57 then (some true) else (if a0 = 46 then (some true) else (if a0 = 95 then (some true) else (some (a0 == 45))))) else (if a0 = 46 then (some true) else (if a0 = 95 then (some true) else (some (a0 == 45))))))) else (if a0 ≥ 65 then (if a0 ≤ 90 then (some true) else (if a0 ≥ 48 then (if a0 ≤ 57 then (some true) else (if a0 = 46 then (some true) else (if a0 = 95 then (some true) else (some (a0 == 45))))) else (if a0 = 46 then (some true) else (if a0 = 95 then (some true) else (some (a0 == 45)))))) else (if a0 ≥ 48 then (if a0 ≤ 57 then (some true) else (if a0 = 46 then (some true) else (if a0 = 95 then (some true) else (some (a0 == 45))))) else (if a0 = 46 then (some true) else (if a0 = 95 then (some true) else (some (a0 == 45))))))
theorem glob_letter.calls (a0 : Int) (r : Bool) (w : World) (h : glob_letter.f a0 = some r) :
  Calls Tryz.prog 90 #[.int .u8 a0] w fun e w' => e = .returned (.bool r) ∧ Drawn0 w w' := by
 unfold glob_letter.f at h
 have H := h
 clear h
 by_cases c2 : a0 ≥ 97
 ·rw [if_pos c2] at H
  have a8 := decide_eq_true c2
  clear c2
  by_cases c3 : a0 ≤ 122
  ·rw [if_pos c3] at H
   have a9 := decide_eq_true c3
   clear c3
   obtain rfl := Option.some.inj H
   go_enter Tryz.func90,Tryz.ntmps90
   go_wp2
   go_ret
   exact ⟨by first|rfl|(simp;done)|(simp [*];done),by repeat (first|exact Drawn0.refl _|apply Drawn0.step)⟩
  ·rw [if_neg c3] at H
   have a9 := decide_eq_false c3
   clear c3
   by_cases c4 : a0 ≥ 65
   ·rw [if_pos c4] at H
    have ba := decide_eq_true c4
    clear c4
    by_cases c5 : a0 ≤ 90
    ·rw [if_pos c5] at H
     have bb := decide_eq_true c5
     clear c5
     obtain rfl := Option.some.inj H
     go_enter Tryz.func90,Tryz.ntmps90
     go_wp2
     go_ret
     exact ⟨by first|rfl|(simp;done)|(simp [*];done),by repeat (first|exact Drawn0.refl _|apply Drawn0.step)⟩
    ·rw [if_neg c5] at H
     have bb := decide_eq_false c5
     clear c5
     by_cases c6 : a0 ≥ 48
     ·rw [if_pos c6] at H
      have bc := decide_eq_true c6
      clear c6
      by_cases c7 : a0 ≤ 57
      ·rw [if_pos c7] at H
       have bd := decide_eq_true c7
       clear c7
       obtain rfl := Option.some.inj H
       go_enter Tryz.func90,Tryz.ntmps90
       go_wp2
       go_ret
       exact ⟨by first|rfl|(simp;done)|(simp [*];done),by repeat (first|exact Drawn0.refl _|apply Drawn0.step)⟩
      ·rw [if_neg c7] at H
       have bd := decide_eq_false c7
       clear c7
       by_cases c8 : a0 = 46
       ·rw [if_pos c8] at H
        have be := beq_iff_eq.mpr c8
        have bf := bne_eq_false_iff_eq.mpr c8
        clear c8
        obtain rfl := Option.some.inj H
        go_enter Tryz.func90,Tryz.ntmps90
        go_wp2
        go_ret
        exact ⟨by first|rfl|(simp;done)|(simp [*];done),by repeat (first|exact Drawn0.refl _|apply Drawn0.step)⟩
       ·rw [if_neg c8] at H
        have be := beq_eq_false_iff_ne.mpr c8
        have bf := bne_iff_ne.mpr c8
        by_cases c9 : a0 = 95
        ·rw [if_pos c9] at H
         have bg := beq_iff_eq.mpr c9
         have bh := bne_eq_false_iff_eq.mpr c9
         clear c9
         obtain rfl := Option.some.inj H
         go_enter Tryz.func90,Tryz.ntmps90
         go_wp2
         go_ret
         exact ⟨by first|rfl|(simp;done)|(simp [*];done),by repeat (first|exact Drawn0.refl _|apply Drawn0.step)⟩
        ·rw [if_neg c9] at H
         have bg := beq_eq_false_iff_ne.mpr c9
         have bh := bne_iff_ne.mpr c9
         obtain rfl := Option.some.inj H
         go_enter Tryz.func90,Tryz.ntmps90
         go_wp2
         go_ret
         exact ⟨by first|rfl|(simp;done)|(simp [*];done),by repeat (first|exact Drawn0.refl _|apply Drawn0.step)⟩
     ·rw [if_neg c6] at H
      have bc := decide_eq_false c6
      clear c6
      by_cases c10 : a0 = 46
      ·rw [if_pos c10] at H
       have aw := beq_iff_eq.mpr c10
       have ax := bne_eq_false_iff_eq.mpr c10
       clear c10
       obtain rfl := Option.some.inj H
       go_enter Tryz.func90,Tryz.ntmps90
       go_wp2
       go_ret
       exact ⟨by first|rfl|(simp;done)|(simp [*];done),by repeat (first|exact Drawn0.refl _|apply Drawn0.step)⟩
      ·rw [if_neg c10] at H
       have aw := beq_eq_false_iff_ne.mpr c10
       have ax := bne_iff_ne.mpr c10
       by_cases aa : a0 = 95
       ·rw [if_pos aa] at H
        have ay := beq_iff_eq.mpr aa
        have az := bne_eq_false_iff_eq.mpr aa
        clear aa
        obtain rfl := Option.some.inj H
        go_enter Tryz.func90,Tryz.ntmps90
        go_wp2
        go_ret
        exact ⟨by first|rfl|(simp;done)|(simp [*];done),by repeat (first|exact Drawn0.refl _|apply Drawn0.step)⟩
       ·rw [if_neg aa] at H
        have ay := beq_eq_false_iff_ne.mpr aa
        have az := bne_iff_ne.mpr aa
        obtain rfl := Option.some.inj H
        go_enter Tryz.func90,Tryz.ntmps90
        go_wp2
        go_ret
        exact ⟨by first|rfl|(simp;done)|(simp [*];done),by repeat (first|exact Drawn0.refl _|apply Drawn0.step)⟩
   ·rw [if_neg c4] at H
    have ba := decide_eq_false c4
    clear c4
    by_cases am : a0 ≥ 48
    ·rw [if_pos am] at H
     have aA := decide_eq_true am
     clear am
     by_cases an : a0 ≤ 57
     ·rw [if_pos an] at H
      have aB := decide_eq_true an
      clear an
      obtain rfl := Option.some.inj H
      go_enter Tryz.func90,Tryz.ntmps90
      go_wp2
      go_ret
      exact ⟨by first|rfl|(simp;done)|(simp [*];done),by repeat (first|exact Drawn0.refl _|apply Drawn0.step)⟩
     ·rw [if_neg an] at H
      have aB := decide_eq_false an
      clear an
      by_cases ab : a0 = 46
      ·rw [if_pos ab] at H
       have aC := beq_iff_eq.mpr ab
       have aD := bne_eq_false_iff_eq.mpr ab
       clear ab
       obtain rfl := Option.some.inj H
       go_enter Tryz.func90,Tryz.ntmps90
       go_wp2
       go_ret
       exact ⟨by first|rfl|(simp;done)|(simp [*];done),by repeat (first|exact Drawn0.refl _|apply Drawn0.step)⟩
      ·rw [if_neg ab] at H
       have aC := beq_eq_false_iff_ne.mpr ab
       have aD := bne_iff_ne.mpr ab
       by_cases ac : a0 = 95
       ·rw [if_pos ac] at H
        have aE := beq_iff_eq.mpr ac
        have aF := bne_eq_false_iff_eq.mpr ac
        clear ac
        obtain rfl := Option.some.inj H
        go_enter Tryz.func90,Tryz.ntmps90
        go_wp2
        go_ret
        exact ⟨by first|rfl|(simp;done)|(simp [*];done),by repeat (first|exact Drawn0.refl _|apply Drawn0.step)⟩
       ·rw [if_neg ac] at H
        have aE := beq_eq_false_iff_ne.mpr ac
        have aF := bne_iff_ne.mpr ac
        obtain rfl := Option.some.inj H
        go_enter Tryz.func90,Tryz.ntmps90
        go_wp2
        go_ret
        exact ⟨by first|rfl|(simp;done)|(simp [*];done),by repeat (first|exact Drawn0.refl _|apply Drawn0.step)⟩
    ·rw [if_neg am] at H
     have aA := decide_eq_false am
     clear am
     by_cases ad : a0 = 46
     ·rw [if_pos ad] at H
      have aG := beq_iff_eq.mpr ad
      have aH := bne_eq_false_iff_eq.mpr ad
      clear ad
      obtain rfl := Option.some.inj H
      go_enter Tryz.func90,Tryz.ntmps90
      go_wp2
      go_ret
      exact ⟨by first|rfl|(simp;done)|(simp [*];done),by repeat (first|exact Drawn0.refl _|apply Drawn0.step)⟩
     ·rw [if_neg ad] at H
      have aG := beq_eq_false_iff_ne.mpr ad
      have aH := bne_iff_ne.mpr ad
      by_cases ae : a0 = 95
      ·rw [if_pos ae] at H
       have aI := beq_iff_eq.mpr ae
       have aJ := bne_eq_false_iff_eq.mpr ae
       clear ae
       obtain rfl := Option.some.inj H
       go_enter Tryz.func90,Tryz.ntmps90
       go_wp2
       go_ret
       exact ⟨by first|rfl|(simp;done)|(simp [*];done),by repeat (first|exact Drawn0.refl _|apply Drawn0.step)⟩
      ·rw [if_neg ae] at H
       have aI := beq_eq_false_iff_ne.mpr ae
       have aJ := bne_iff_ne.mpr ae
       obtain rfl := Option.some.inj H
       go_enter Tryz.func90,Tryz.ntmps90
       go_wp2
       go_ret
       exact ⟨by first|rfl|(simp;done)|(simp [*];done),by repeat (first|exact Drawn0.refl _|apply Drawn0.step)⟩
 ·rw [if_neg c2] at H
  have a8 := decide_eq_false c2
  clear c2
  by_cases ao : a0 ≥ 65
  ·rw [if_pos ao] at H
   have aL := decide_eq_true ao
   clear ao
   by_cases ap : a0 ≤ 90
   ·rw [if_pos ap] at H
    have aM := decide_eq_true ap
    clear ap
    obtain rfl := Option.some.inj H
    go_enter Tryz.func90,Tryz.ntmps90
    go_wp2
    go_ret
    exact ⟨by first|rfl|(simp;done)|(simp [*];done),by repeat (first|exact Drawn0.refl _|apply Drawn0.step)⟩
   ·rw [if_neg ap] at H
    have aM := decide_eq_false ap
    clear ap
    by_cases aq : a0 ≥ 48
    ·rw [if_pos aq] at H
     have aN := decide_eq_true aq
     clear aq
     by_cases ar : a0 ≤ 57
     ·rw [if_pos ar] at H
      have aO := decide_eq_true ar
      clear ar
      obtain rfl := Option.some.inj H
      go_enter Tryz.func90,Tryz.ntmps90
      go_wp2
      go_ret
      exact ⟨by first|rfl|(simp;done)|(simp [*];done),by repeat (first|exact Drawn0.refl _|apply Drawn0.step)⟩
     ·rw [if_neg ar] at H
      have aO := decide_eq_false ar
      clear ar
      by_cases af : a0 = 46
      ·rw [if_pos af] at H
       have aP := beq_iff_eq.mpr af
       have aQ := bne_eq_false_iff_eq.mpr af
       clear af
       obtain rfl := Option.some.inj H
       go_enter Tryz.func90,Tryz.ntmps90
       go_wp2
       go_ret
       exact ⟨by first|rfl|(simp;done)|(simp [*];done),by repeat (first|exact Drawn0.refl _|apply Drawn0.step)⟩
      ·rw [if_neg af] at H
       have aP := beq_eq_false_iff_ne.mpr af
       have aQ := bne_iff_ne.mpr af
       by_cases ag : a0 = 95
       ·rw [if_pos ag] at H
        have aR := beq_iff_eq.mpr ag
        have aS := bne_eq_false_iff_eq.mpr ag
        clear ag
        obtain rfl := Option.some.inj H
        go_enter Tryz.func90,Tryz.ntmps90
        go_wp2
        go_ret
        exact ⟨by first|rfl|(simp;done)|(simp [*];done),by repeat (first|exact Drawn0.refl _|apply Drawn0.step)⟩
       ·rw [if_neg ag] at H
        have aR := beq_eq_false_iff_ne.mpr ag
        have aS := bne_iff_ne.mpr ag
        obtain rfl := Option.some.inj H
        go_enter Tryz.func90,Tryz.ntmps90
        go_wp2
        go_ret
        exact ⟨by first|rfl|(simp;done)|(simp [*];done),by repeat (first|exact Drawn0.refl _|apply Drawn0.step)⟩
    ·rw [if_neg aq] at H
     have aN := decide_eq_false aq
     clear aq
     by_cases ah : a0 = 46
     ·rw [if_pos ah] at H
      have aT := beq_iff_eq.mpr ah
      have aU := bne_eq_false_iff_eq.mpr ah
      clear ah
      obtain rfl := Option.some.inj H
      go_enter Tryz.func90,Tryz.ntmps90
      go_wp2
      go_ret
      exact ⟨by first|rfl|(simp;done)|(simp [*];done),by repeat (first|exact Drawn0.refl _|apply Drawn0.step)⟩
     ·rw [if_neg ah] at H
      have aT := beq_eq_false_iff_ne.mpr ah
      have aU := bne_iff_ne.mpr ah
      by_cases ai : a0 = 95
      ·rw [if_pos ai] at H
       have aV := beq_iff_eq.mpr ai
       have aW := bne_eq_false_iff_eq.mpr ai
       clear ai
       obtain rfl := Option.some.inj H
       go_enter Tryz.func90,Tryz.ntmps90
       go_wp2
       go_ret
       exact ⟨by first|rfl|(simp;done)|(simp [*];done),by repeat (first|exact Drawn0.refl _|apply Drawn0.step)⟩
      ·rw [if_neg ai] at H
       have aV := beq_eq_false_iff_ne.mpr ai
       have aW := bne_iff_ne.mpr ai
       obtain rfl := Option.some.inj H
       go_enter Tryz.func90,Tryz.ntmps90
       go_wp2
       go_ret
       exact ⟨by first|rfl|(simp;done)|(simp [*];done),by repeat (first|exact Drawn0.refl _|apply Drawn0.step)⟩
  ·rw [if_neg ao] at H
   have aL := decide_eq_false ao
   clear ao
   by_cases au : a0 ≥ 48
   ·rw [if_pos au] at H
    have aX := decide_eq_true au
    clear au
    by_cases av : a0 ≤ 57
    ·rw [if_pos av] at H
     have aY := decide_eq_true av
     clear av
     obtain rfl := Option.some.inj H
     go_enter Tryz.func90,Tryz.ntmps90
     go_wp2
     go_ret
     exact ⟨by first|rfl|(simp;done)|(simp [*];done),by repeat (first|exact Drawn0.refl _|apply Drawn0.step)⟩
    ·rw [if_neg av] at H
     have aY := decide_eq_false av
     clear av
     by_cases aj : a0 = 46
     ·rw [if_pos aj] at H
      have aZ := beq_iff_eq.mpr aj
      have a1 := bne_eq_false_iff_eq.mpr aj
      clear aj
      obtain rfl := Option.some.inj H
      go_enter Tryz.func90,Tryz.ntmps90
      go_wp2
      go_ret
      exact ⟨by first|rfl|(simp;done)|(simp [*];done),by repeat (first|exact Drawn0.refl _|apply Drawn0.step)⟩
     ·rw [if_neg aj] at H
      have aZ := beq_eq_false_iff_ne.mpr aj
      have a1 := bne_iff_ne.mpr aj
      by_cases ak : a0 = 95
      ·rw [if_pos ak] at H
       have a2 := beq_iff_eq.mpr ak
       have a3 := bne_eq_false_iff_eq.mpr ak
       clear ak
       obtain rfl := Option.some.inj H
       go_enter Tryz.func90,Tryz.ntmps90
       go_wp2
       go_ret
       exact ⟨by first|rfl|(simp;done)|(simp [*];done),by repeat (first|exact Drawn0.refl _|apply Drawn0.step)⟩
      ·rw [if_neg ak] at H
       have a2 := beq_eq_false_iff_ne.mpr ak
       have a3 := bne_iff_ne.mpr ak
       obtain rfl := Option.some.inj H
       go_enter Tryz.func90,Tryz.ntmps90
       go_wp2
       go_ret
       exact ⟨by first|rfl|(simp;done)|(simp [*];done),by repeat (first|exact Drawn0.refl _|apply Drawn0.step)⟩
   ·rw [if_neg au] at H
    have aX := decide_eq_false au
    clear au
    by_cases al : a0 = 46
    ·rw [if_pos al] at H
     have a4 := beq_iff_eq.mpr al
     have a5 := bne_eq_false_iff_eq.mpr al
     clear al
     obtain rfl := Option.some.inj H
     go_enter Tryz.func90,Tryz.ntmps90
     go_wp2
     go_ret
     exact ⟨by first|rfl|(simp;done)|(simp [*];done),by repeat (first|exact Drawn0.refl _|apply Drawn0.step)⟩
    ·rw [if_neg al] at H
     have a4 := beq_eq_false_iff_ne.mpr al
     have a5 := bne_iff_ne.mpr al
     by_cases c31 : a0 = 95
     ·rw [if_pos c31] at H
      have a6 := beq_iff_eq.mpr c31
      have a7 := bne_eq_false_iff_eq.mpr c31
      clear c31
      obtain rfl := Option.some.inj H
      go_enter Tryz.func90,Tryz.ntmps90
      go_wp2
      go_ret
      exact ⟨by first|rfl|(simp;done)|(simp [*];done),by repeat (first|exact Drawn0.refl _|apply Drawn0.step)⟩
     ·rw [if_neg c31] at H
      have a6 := beq_eq_false_iff_ne.mpr c31
      have a7 := bne_iff_ne.mpr c31
      obtain rfl := Option.some.inj H
      go_enter Tryz.func90,Tryz.ntmps90
      go_wp2
      go_ret
      exact ⟨by first|rfl|(simp;done)|(simp [*];done),by repeat (first|exact Drawn0.refl _|apply Drawn0.step)⟩
end Go.Proofs.YtmgliocboeifdaaGreatDoor.F
