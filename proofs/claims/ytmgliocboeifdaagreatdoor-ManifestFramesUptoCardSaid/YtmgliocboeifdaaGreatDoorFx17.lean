import Derived.Test.YtmgliocboeifdaaGreatDoorFx0
import Derived.Test.YtmgliocboeifdaaGreatDoorFx11
import Derived.Test.YtmgliocboeifdaaGreatDoorFx15
import Derived.Test.YtmgliocboeifdaaGreatDoorFx16
namespace Go.Proofs.YtmgliocboeifdaaGreatDoor.F
open Go.RowKit Go.Proofs.YtmgliocboeifdaaGreatDoorW.PrintWords Go.Proofs.YtmgliocboeifdaaGreatDoorW.PrintLast Go.Proofs.YtmgliocboeifdaaGreatDoorW.PrintMore
set_option maxHeartbeats 4000000
set_option maxRecDepth 100000
attribute [local go_sem] max2_int min2_int max_two min_two max_three min_three max_four min_four
set_option linter.unusedVariables false
set_option linter.unusedSimpArgs false
mutual
def r33_Decode.j0 : Nat → List Int → Int → Int → Int → Int → Bool → Option (Int × Int × Int × List Int × List Int × List ByteArray × Int)
|0,_,_,_,_,_,_ => none
|k + 1,x0,x5,x6,x8,ad,ae => if ae = true then (some (0,0,0,([] : List Int),([] : List Int),([] : List ByteArray),3)) else ((r03_GetList.f k x0 x6 (x0.length : Int)).bind fun aa => (if aa.2.2 = 0 then ((r03_GetList.f k x0 aa.2.1 (x0.length : Int)).bind fun ab => (if ab.2.2 = 0 then ((r03_Get.f k x0 ab.2.1).bind fun ac => (if ac.2.2 = 0 then (r33_Decode.l0 k x0 ac.2.1 ac.1 0 x5 x8 ad aa.1 ab.1 ([] : List ByteArray)) else (some (0,0,0,([] : List Int),([] : List Int),([] : List ByteArray),3)))) else (some (0,0,0,([] : List Int),([] : List Int),([] : List ByteArray),3)))) else (some (0,0,0,([] : List Int),([] : List Int),([] : List ByteArray),3))))
def r33_Decode.l0 : Nat → List Int → Int → Int → Int → Int → Int → Int → List Int → List Int → List ByteArray → Option (Int × Int × Int × List Int × List Int × List ByteArray × Int)
|0,_,_,_,_,_,_,_,_,_,_ => none
|k + 1,x0,x6,ah,ai,ab,ac,ad,ae,af,aa => if ai < ah then ((r03_GetString.f k x0 x6 (x0.length : Int)).bind fun ag => (if ag.2.2 = 0 then (if aa.length < 8796093022208 then (r33_Decode.l0 k x0 ag.2.1 ah (wrap64 (ai + 1)) ab ac ad ae af (aa ++ [ag.1])) else (none)) else (some (0,0,0,([] : List Int),([] : List Int),([] : List ByteArray),3)))) else (if x6 = (x0.length : Int) then (some (ab,ac,ad,ae,af,aa,0)) else (some (0,0,0,([] : List Int),([] : List Int),([] : List ByteArray),3)))
end
def r33_Decode.f (k : Nat) (l0 : List Int) : Option (Int × Int × Int × List Int × List Int × List ByteArray × Int) := (r03_Get.f k l0 0).bind fun ab => ((r03_Get.f k l0 ab.2.1).bind fun ac => ((r03_Get.f k l0 ac.2.1).bind fun aa => (if ab.2.2 = 0 then (if ac.2.2 = 0 then (r33_Decode.j0 k l0 ab.1 aa.2.1 ac.1 aa.1 (aa.2.2 != 0)) else (r33_Decode.j0 k l0 ab.1 aa.2.1 ac.1 aa.1 true)) else (r33_Decode.j0 k l0 ab.1 aa.2.1 ac.1 aa.1 true))))
theorem r33_Decode.mono_l : ∀ k, (∀ y0 y1 y2 y3 y4 y5, LeO (r33_Decode.j0 k y0 y1 y2 y3 y4 y5) (r33_Decode.j0 (k + 1) y0 y1 y2 y3 y4 y5)) ∧ (∀ y0 y1 y2 y3 y4 y5 y6 y7 y8 y9, LeO (r33_Decode.l0 k y0 y1 y2 y3 y4 y5 y6 y7 y8 y9) (r33_Decode.l0 (k + 1) y0 y1 y2 y3 y4 y5 y6 y7 y8 y9))
|0 => ⟨fun _ _ _ _ _ _ r h => by simp [r33_Decode.j0] at h,fun _ _ _ _ _ _ _ _ _ _ r h => by simp [r33_Decode.l0] at h⟩
|k + 1 => by
  obtain ⟨ih0,ih1⟩ := r33_Decode.mono_l k
  refine ⟨?_,?_⟩
  ·intro y0 y1 y2 y3 y4 y5
   unfold r33_Decode.j0
   repeat' (with_reducible first|exact ih1 _ _ _ _ _ _ _ _ _ _|exact r03_Get.mono _ _ _|exact r03_GetList.mono _ _ _ _|exact LeO.refl _|exact LeO.none _|refine LeO.ite ?_ ?_|refine LeO.bind ?_ (fun _ => ?_))
  ·intro y0 y1 y2 y3 y4 y5 y6 y7 y8 y9
   unfold r33_Decode.l0
   repeat' (with_reducible first|exact ih1 _ _ _ _ _ _ _ _ _ _|exact r03_GetString.mono _ _ _ _|exact LeO.refl _|exact LeO.none _|refine LeO.ite ?_ ?_|refine LeO.bind ?_ (fun _ => ?_))
theorem r33_Decode.mono : ∀ a0 k, LeO (r33_Decode.f k a0) (r33_Decode.f (k + 1) a0) := by
 intro a0 k
 obtain ⟨ih0,ih1⟩ := r33_Decode.mono_l k
 unfold r33_Decode.f
 repeat' (with_reducible first|exact ih0 _ _ _ _ _ _|exact ih1 _ _ _ _ _ _ _ _ _ _|exact r03_Get.mono _ _ _|exact r03_GetList.mono _ _ _ _|exact r03_GetString.mono _ _ _ _|exact LeO.refl _|exact LeO.none _|refine LeO.ite ?_ ?_|refine LeO.bind ?_ (fun _ => ?_))
theorem r33_Decode.calls (k : Nat) (A0 : Option Addr) (c0 : Nat) (l0 : List Int) (r1 : Int) (r2 : Int) (r3 : Int) (r4 : List Int) (r5 : List Int) (r6 : List ByteArray) (r7 : Int) (w : World) (cp : Kd.C (Kd.int .u8) w A0 l0.length l0) (cq : l0.length ≤ c0) (h : r33_Decode.f k l0 = some (r1, r2, r3, r4, r5, r6, r7)) :
  Calls Tryz.prog 11 #[.slice A0 l0.length c0] w fun e w' => ∃ ce cf cr : Value,e = .returned (.tuple #[.agg #[.int .i64 r1,.int .i64 r2,.int .i64 r3,ce,cf,cr],.int .i64 r7]) ∧ Kd.R (Kd.int .i64) 3 w' w.heap.size (fun k_ => some k_ ≠ (cf : Value).ownBlock) ce r4 ∧ Kd.R (Kd.int .i64) 3 w' w.heap.size (fun k_ => some k_ ≠ (ce : Value).ownBlock) cf r5 ∧ Kd.R Kd.string 9 w' w.heap.size (fun _ => True) cr r6 ∧ Below w.heap.size w w' := by
 have cY := Tryz.underlying30
 have aX := aK cp
 have aY := aK cq
 clear cp cq
 have HB := aK (Below.refl w.heap.size w)
 have H : ((r03_Get.f k l0 0).bind fun aQ => ((r03_Get.f k l0 aQ.2.1).bind fun aE => ((r03_Get.f k l0 aE.2.1).bind fun an => (if aQ.2.2 = 0 then (if aE.2.2 = 0 then (r33_Decode.j0 k l0 aQ.1 an.2.1 aE.1 an.1 (an.2.2 != 0)) else (r33_Decode.j0 k l0 aQ.1 an.2.1 aE.1 an.1 true)) else (r33_Decode.j0 k l0 aQ.1 an.2.1 aE.1 an.1 true))))) = some (r1,r2,r3,r4,r5,r6,r7) := h
 clear h
 replace H := Option.bind_eq_some_iff.mp H
 obtain ⟨⟨am,be,a4⟩,ct,H⟩ := H
 replace H : ((r03_Get.f k l0 be).bind fun aE => ((r03_Get.f k l0 aE.2.1).bind fun an => (if a4 = 0 then (if aE.2.2 = 0 then (r33_Decode.j0 k l0 am an.2.1 aE.1 an.1 (an.2.2 != 0)) else (r33_Decode.j0 k l0 am an.2.1 aE.1 an.1 true)) else (r33_Decode.j0 k l0 am an.2.1 aE.1 an.1 true)))) = some (r1,r2,r3,r4,r5,r6,r7) := H
 have A2 := aK ct
 clear ct
 replace H := Option.bind_eq_some_iff.mp H
 obtain ⟨⟨au,bf,bg⟩,cu,H⟩ := H
 replace H : ((r03_Get.f k l0 bf).bind fun an => (if a4 = 0 then (if bg = 0 then (r33_Decode.j0 k l0 am an.2.1 au an.1 (an.2.2 != 0)) else (r33_Decode.j0 k l0 am an.2.1 au an.1 true)) else (r33_Decode.j0 k l0 am an.2.1 au an.1 true))) = some (r1,r2,r3,r4,r5,r6,r7) := H
 have A3 := aK cu
 clear cu
 replace H := Option.bind_eq_some_iff.mp H
 obtain ⟨⟨aw,aH,bT⟩,cv,H⟩ := H
 replace H : (if a4 = 0 then (if bg = 0 then (r33_Decode.j0 k l0 am aH au aw (bT != 0)) else (r33_Decode.j0 k l0 am aH au aw true)) else (r33_Decode.j0 k l0 am aH au aw true)) = some (r1,r2,r3,r4,r5,r6,r7) := H
 have A4 := aK cv
 clear cv
 have cg := aK H
 clear H
 go_enter Tryz.func11,Tryz.ntmps11
 go_upto_region 5 with (first|((with_reducible refine gate_dst (N := 2) rfl ?_);refine box_event ?hg (N := 2) ?hd (cs := #[.int .i64 0,.int .i64 0,.int .i64 0,.slice none 0 0,.slice none 0 0,.slice none 0 0]) (t := 30) ?hr ?_;(case hd => rfl);(case hg => rfl);(case hr => first|(go_simp;done)|(go_simp;rfl));intro ae hg w6 hbox hb;have aa := aK (hbox);have bX := aK ((by rw [hg];exact (below_size (bM HB.out)) : w.heap.size ≤ ae));have cw := Ge.mk bX.out;have bY := aK ((by rw [hg];exact (below_size (bM HB.out)) : w.heap.size ≤ ae));have cx := Ge.mk bY.out;replace HB := aK (below_step (bM HB.out) hb);clear hb hbox hg)|((with_reducible refine gate_dst (N := 4) rfl ?_);refine box_event ?hg (N := 4) ?hd (cs := #[.int .i64 0,.int .i64 0,.int .i64 0,.slice none 0 0,.slice none 0 0,.slice none 0 0]) (t := 30) ?hr ?_;(case hd => rfl);(case hg => rfl);(case hr => first|(go_simp;done)|(go_simp;rfl));intro ar hg w7 hbox hb;have ab := aK (hbox);have bZ := aK ((by rw [hg];exact (below_size (bG HB.out)) : w.heap.size ≤ ar));have cy := Ge.mk bZ.out;have b0 := aK ((by rw [hg];exact (below_size (bG HB.out)) : w.heap.size ≤ ar));have cz := Ge.mk b0.out;replace HB := aK (below_step (bG HB.out) hb);have ac := aK (nbL aa.out hg);have ap := aK (nbR aa.out hg);replace aa := aK (blk_below (kM aa.out) hb);clear hb hbox hg)|((with_reducible refine gate_callee (f := 38) rfl ?_);refine gL 21 Tryz.func38 #[.slice A0 l0.length c0,.int .i64 0] ?_;(with_reducible refine (r03_Get.calls k _ _ l0 0 am be a4 _ ?ai ?aj A2.out).mono ?_);(case ai => exact cM (Kd.C_below aX.out HB.out));(case aj => exact aY.out);rintro e w' ⟨rfl,⟨nd,rfl⟩⟩;refine ⟨_,rfl,?_⟩)|((with_reducible refine gate_callee (f := 38) rfl ?_);refine gL 28 Tryz.func38 #[.slice A0 l0.length c0,.int .i64 be] ?_;(with_reducible refine (r03_Get.calls k _ _ l0 be au bf bg _ ?ai ?aj A3.out).mono ?_);(case ai => exact Kd.C_below aX.out (bG HB.out));(case aj => exact aY.out);rintro e w' ⟨rfl,⟨nd,rfl⟩⟩;refine ⟨_,rfl,?_⟩)|((with_reducible refine gate_callee (f := 38) rfl ?_);refine gL 35 Tryz.func38 #[.slice A0 l0.length c0,.int .i64 bf] ?_;(with_reducible refine (r03_Get.calls k _ _ l0 bf aw aH bT _ ?ai ?aj A4.out).mono ?_);(case ai => exact Kd.C_below aX.out (bG HB.out));(case aj => exact aY.out);rintro e w' ⟨rfl,⟨nd,rfl⟩⟩;refine ⟨_,rfl,?_⟩))
 (try simp only [Act.put,z1_,z2_,z3_])
 go_cut [48] (fun cZ wc => ∃ (kq : Nat) (aZ : Bool),cZ = .bool aZ ∧ Aside0 (r33_Decode.j0 kq l0 am aH au aw aZ = some (r1,r2,r3,r4,r5,r6,r7)) ∧ Aside0 (kq ≤ k) ∧ Aside0 (wc.heap[ae]? = some (.cells #[.int .i64 0,.int .i64 0,.int .i64 0,(.slice none 0 0),(.slice none 0 0),(.slice none 0 0)] 30 (0,0))) ∧ Aside0 (wc.heap[ar]? = some (.cells #[.int .i64 0,.int .i64 0,.int .i64 0,(.slice none 0 0),(.slice none 0 0),(.slice none 0 0)] 30 (0,0))) ∧ Aside0 (Below w.heap.size w wc))
 case first =>
  have H := cg.out
  clear cg
  by_cases c8 : a4 = 0
  ·rw [if_pos c8] at H
   have a5 := beq_iff_eq.mpr c8
   have bU := bne_eq_false_iff_eq.mpr c8
   clear c8
   (first|rw [a5]|(simp only [i64_w,i32_w];rw [a5])|rw [bU]|skip)
   by_cases c9 : bg = 0
   ·rw [if_pos c9] at H
    have ch := beq_iff_eq.mpr c9
    have ci := bne_eq_false_iff_eq.mpr c9
    clear c9
    have H' := aK H
    clear H
    go_wp2
    go_meet
    case rel => exact ⟨_,((bT != 0)),(by first|rfl|(simp;done)|(simp [*];done)),H',⟨by first|omega|exact Nat.le_refl _⟩,⟨kM aa.out⟩,⟨kM ab.out⟩,⟨bG HB.out⟩⟩
   ·rw [if_neg c9] at H
    have ch := beq_eq_false_iff_ne.mpr c9
    have ci := bne_iff_ne.mpr c9
    have H' := aK H
    clear H
    go_wp2
    go_meet
    case rel => exact ⟨_,(true),(by first|rfl|(simp;done)|(simp [*];done)),H',⟨by first|omega|exact Nat.le_refl _⟩,⟨kM aa.out⟩,⟨kM ab.out⟩,⟨bG HB.out⟩⟩
  ·rw [if_neg c8] at H
   have a5 := beq_eq_false_iff_ne.mpr c8
   have bU := bne_iff_ne.mpr c8
   (first|rw [a5]|(simp only [i64_w,i32_w];rw [a5])|rw [bU]|skip)
   have H' := aK H
   clear H
   go_wp2
   go_meet
   case rel => exact ⟨_,(true),(by first|rfl|(simp;done)|(simp [*];done)),H',⟨by first|omega|exact Nat.le_refl _⟩,⟨kM aa.out⟩,⟨kM ab.out⟩,⟨bG HB.out⟩⟩
 case rest =>
  clear cg
  try clear p2
  obtain ⟨kq,aZ,rfl,HA,cA,aa,ab,HB⟩ := hcut
  cases kq with
 |zero => exact absurd HA.out (by simp [r33_Decode.j0])
 |succ kj4 =>
   have H := HA.out
   clear HA
   simp only [r33_Decode.j0] at H
   by_cases c10 : aZ = true
   ·subst c10
    rw [if_pos rfl] at H
    simp only [Option.some.injEq,Prod.mk.injEq] at H
    obtain ⟨rfl,rfl,rfl,rfl,rfl,rfl,rfl⟩ := H
    have cB := ac.out
    have cC := ap.out
    obtain ⟨_,_,_,_,_,_,_,_,_,_,_,_⟩ := bk6_ aa.out
    go_wp2
    refine bodyPost_ret (results_ct rfl _ _ ae 30 #[.int .i64 0,.int .i64 0,.int .i64 0,.slice none 0 0,.slice none 0 0,.slice none 0 0] (0,0) _ rfl (by refine kO ?_;refine blk_put (cs := #[.int .i64 0,.int .i64 0,.int .i64 0,.slice none 0 0,.slice none 0 0,.slice none 0 0]) ?_ 5 _ rfl;refine kO ?_;refine blk_put (cs := #[.int .i64 0,.int .i64 0,.int .i64 0,.slice none 0 0,.slice none 0 0,.slice none 0 0]) ?_ 4 _ rfl;refine kO ?_;refine blk_put (cs := #[.int .i64 0,.int .i64 0,.int .i64 0,.slice none 0 0,.slice none 0 0,.slice none 0 0]) ?_ 3 _ rfl;refine kO ?_;refine blk_put (cs := #[.int .i64 0,.int .i64 0,.int .i64 0,.slice none 0 0,.slice none 0 0,.slice none 0 0]) ?_ 2 _ rfl;refine kO ?_;refine blk_put (cs := #[.int .i64 0,.int .i64 0,.int .i64 0,.slice none 0 0,.slice none 0 0,.slice none 0 0]) ?_ 1 _ rfl;refine kO ?_;refine blk_put (cs := #[.int .i64 0,.int .i64 0,.int .i64 0,.slice none 0 0,.slice none 0 0,.slice none 0 0]) ?_ 0 _ rfl;refine kO ?_;exact aa.out) Tryz.underlying30 rfl (by kernel_rfl)) rfl ?_
    exact ⟨_,_,_,by first|rfl|(simp [errW_none,errW_some] <;> rfl)|(simp [*,errW_none,errW_some] <;> rfl),by first|exact Kd.R_nil _ _ _ _ _|exact Kd.N_nil _ _ _ _ _|exact Kd.V_nil _ _ _ _ _|exact Kd.Q_nil _ _ _ _ _|exact Kd.S_nil _ _ _ _ _,by first|exact Kd.R_nil _ _ _ _ _|exact Kd.N_nil _ _ _ _ _|exact Kd.V_nil _ _ _ _ _|exact Kd.Q_nil _ _ _ _ _|exact Kd.S_nil _ _ _ _ _,by first|exact Kd.R_nil _ _ _ _ _|exact Kd.N_nil _ _ _ _ _|exact Kd.V_nil _ _ _ _ _|exact Kd.Q_nil _ _ _ _ _|exact Kd.S_nil _ _ _ _ _,bG HB.out⟩
   ·replace c10 := Bool.eq_false_iff.mpr c10
    subst c10
    rw [if_neg (show ¬ (false = true) by decide)] at H
    replace H := Option.bind_eq_some_iff.mp H
    obtain ⟨⟨ao,aI,a0⟩,b1,H⟩ := H
    replace H : (if a0 = 0 then ((r03_GetList.f kj4 l0 aI (l0.length : Int)).bind fun a6 => (if a6.2.2 = 0 then ((r03_Get.f kj4 l0 a6.2.1).bind fun aJ => (if aJ.2.2 = 0 then (r33_Decode.l0 kj4 l0 aJ.2.1 aJ.1 0 am au aw ao a6.1 ([] : List ByteArray)) else (some (0,0,0,([] : List Int),([] : List Int),([] : List ByteArray),3)))) else (some (0,0,0,([] : List Int),([] : List Int),([] : List ByteArray),3)))) else (some (0,0,0,([] : List Int),([] : List Int),([] : List ByteArray),3))) = some (r1,r2,r3,r4,r5,r6,r7) := H
    have cd := aK b1
    clear b1
    by_cases bF : a0 = 0
    ·rw [if_pos bF] at H
     have bH := beq_iff_eq.mpr bF
     have bI := bne_eq_false_iff_eq.mpr bF
     clear bF
     replace H := Option.bind_eq_some_iff.mp H
     obtain ⟨⟨av,aR,a7⟩,b2,H⟩ := H
     replace H : (if a7 = 0 then ((r03_Get.f kj4 l0 aR).bind fun aJ => (if aJ.2.2 = 0 then (r33_Decode.l0 kj4 l0 aJ.2.1 aJ.1 0 am au aw ao av ([] : List ByteArray)) else (some (0,0,0,([] : List Int),([] : List Int),([] : List ByteArray),3)))) else (some (0,0,0,([] : List Int),([] : List Int),([] : List ByteArray),3))) = some (r1,r2,r3,r4,r5,r6,r7) := H
     have cj := aK b2
     clear b2
     by_cases bJ : a7 = 0
     ·rw [if_pos bJ] at H
      have bK := beq_iff_eq.mpr bJ
      have bL := bne_eq_false_iff_eq.mpr bJ
      clear bJ
      replace H := Option.bind_eq_some_iff.mp H
      obtain ⟨⟨aV,bh,bi⟩,b3,H⟩ := H
      replace H : (if bi = 0 then (r33_Decode.l0 kj4 l0 bh aV 0 am au aw ao av ([] : List ByteArray)) else (some (0,0,0,([] : List Int),([] : List Int),([] : List ByteArray),3))) = some (r1,r2,r3,r4,r5,r6,r7) := H
      have cD := aK b3
      clear b3
      by_cases bN : bi = 0
      ·rw [if_pos bN] at H
       have bO := beq_iff_eq.mpr bN
       have bP := bne_eq_false_iff_eq.mpr bN
       clear bN
       have H' := aK H
       clear H
       go_wp2_with (first|((with_reducible refine gate_callee (f := 39) rfl ?_);refine gL 55 Tryz.func39 #[.slice A0 l0.length c0,.int .i64 aH,.int .i64 (l0.length : Int)] ?_;(with_reducible refine (r03_GetList.calls kj4 _ _ l0 aH (l0.length : Int) ao aI a0 _ ?ai ?aj cd.out).mono ?_);(case ai => exact cM (Kd.C_below aX.out HB.out));(case aj => exact aY.out);rintro e db ⟨aW,rfl,aN,hb⟩;refine ⟨_,rfl,?_⟩;have ay := aK (Kd.R_lower aN (below_size (bG HB.out)));replace aa := aK (blk_below (kM aa.out) hb);replace ab := aK (blk_below (kM ab.out) hb);replace HB := aK (below_step (bG HB.out) hb);(try clear hb);(try clear hk);(try clear aN))|((with_reducible refine gate_callee (f := 39) rfl ?_);refine gL 67 Tryz.func39 #[.slice A0 l0.length c0,.int .i64 aI,.int .i64 (l0.length : Int)] ?_;(with_reducible refine (r03_GetList.calls kj4 _ _ l0 aI (l0.length : Int) av aR a7 _ ?ai ?aj cj.out).mono ?_);(case ai => exact cM (Kd.C_below aX.out HB.out));(case aj => exact aY.out);rintro e bQ ⟨a1,rfl,aN,hb⟩;refine ⟨_,rfl,?_⟩;have aG := aK (Kd.R_lower (Kd.R_new' aN (Kd.R_lt (rM ay.out))) (below_size (bG HB.out)));replace ay := aK (Kd.R_elder' (rM ay.out) (Kd.R_base aN) hb);replace aa := aK (blk_below (kM aa.out) hb);replace ab := aK (blk_below (kM ab.out) hb);replace HB := aK (below_step (bG HB.out) hb);(try clear hb);(try clear hk);(try clear aN))|((with_reducible refine gate_callee (f := 38) rfl ?_);refine gL 77 Tryz.func38 #[.slice A0 l0.length c0,.int .i64 aR] ?_;(with_reducible refine (r03_Get.calls kj4 _ _ l0 aR aV bh bi _ ?ai ?aj cD.out).mono ?_);(case ai => exact cM (Kd.C_below aX.out HB.out));(case aj => exact aY.out);rintro e w' ⟨rfl,⟨nd,rfl⟩⟩;refine ⟨_,rfl,?_⟩;(try (rw [drewN_self bQ];generalize hq_ : World.drewN bQ _ = bQ;have a8 : Aside0 (Kd.R (Kd.int .i64) 3 bQ w.heap.size (fun k_ => some k_ ≠ (a1 : Value).ownBlock) aW ao) := ⟨by rw [← hq_];exact (by (with_reducible repeat (first|apply Kd.R_alloc|apply Kd.R_drewN|apply Kd.R_drew));exact Kd.R_mono ay.out (fun _ hk => hk.2))⟩;have a9 : Aside0 (Kd.R (Kd.int .i64) 3 bQ w.heap.size (fun k_ => some k_ ≠ (aW : Value).ownBlock) a1 av) := ⟨by rw [← hq_];exact (by (with_reducible repeat (first|apply Kd.R_alloc|apply Kd.R_drewN|apply Kd.R_drew));exact Kd.R_mono aG.out (fun _ hk => hk.2))⟩;have ba : Aside0 (bQ.heap[ae]? = some (.cells #[.int .i64 0,.int .i64 0,.int .i64 0,.slice none 0 0,.slice none 0 0,.slice none 0 0] 30 (0,0))) := ⟨by rw [← hq_];exact (kM aa.out)⟩;have bb : Aside0 (bQ.heap[ar]? = some (.cells #[.int .i64 0,.int .i64 0,.int .i64 0,.slice none 0 0,.slice none 0 0,.slice none 0 0] 30 (0,0))) := ⟨by rw [← hq_];exact (kM ab.out)⟩;have bc : Aside0 (Below w.heap.size w bQ) := ⟨by rw [← hq_];exact (bG HB.out)⟩;clear ay aG aa ab HB hq_;have ay := a8;have aG := a9;have aa := ba;have ab := bb;have HB := bc;clear a8 a9 ba bb bc));have cE := ap.out;have cF := ac.out;obtain ⟨bj,bk,bm,bn,bo,bp,bq,br,bs,bu,bv,bx⟩ := bk6_ ab.out;obtain ⟨az,aA,ck⟩ := Kd.R_slice ay.out;subst ck;obtain ⟨aC,aD,cl⟩ := Kd.R_slice aG.out;subst cl))
       go_loopg [6,15] kj4 (fun kq v6 c1 w' => ∃ (aT : Int) (aM : Int) (aq : Int) (ah : Int) (ad : Int) (af : List ByteArray) (ax : Value),v6 = .int .i64 aT ∧ c1 = .int .i64 aM ∧ Aside0 (r33_Decode.l0 kq l0 aT aV aM am au aw ao av af = some (r1,r2,r3,r4,r5,r6,r7)) ∧ Aside0 (kq ≤ kj4) ∧ Aside0 (Kd.R (Kd.int .i64) 3 w' w.heap.size (fun k_ => some k_ ≠ ((.slice aC av.length aD) : Value).ownBlock) (.slice az ao.length aA) ao) ∧ Aside0 (Kd.R (Kd.int .i64) 3 w' w.heap.size (fun k_ => some k_ ≠ ((.slice az ao.length aA) : Value).ownBlock) (.slice aC av.length aD) av) ∧ Aside0 (Kd.R Kd.string 9 w' w.heap.size (fun _ => True) ax af) ∧ Aside0 (w'.heap[ae]? = some (.cells #[.int .i64 aq,.int .i64 ah,.int .i64 ad,(.slice none 0 0),(.slice none 0 0),(.slice none 0 0)] 30 (0,0))) ∧ Aside0 (w'.heap[ar]? = some (.cells #[.int .i64 am,.int .i64 au,.int .i64 aw,(.slice az ao.length aA),(.slice aC av.length aD),ax] 30 (0,0))) ∧ Aside0 (Below w.heap.size w w'))
       case atStart => exact ⟨(bh),(0),(0),(0),(0),(([] : List ByteArray)),(.slice none 0 0),(by first|rfl|(simp;done)|(simp [*];done)),(by first|rfl|(simp;done)|(simp [*];done)),H',⟨Nat.le_refl _⟩,⟨by (with_reducible repeat (first|apply Kd.R_alloc|apply Kd.R_drewN|apply Kd.R_drew));exact Kd.R_mono (Kd.R_far (p := ⟨ar,4,none⟩) (Kd.R_far (p := ⟨ar,3,none⟩) (Kd.R_far (p := ⟨ar,2,none⟩) (Kd.R_far (p := ⟨ar,1,none⟩) (Kd.R_far (p := ⟨ar,0,none⟩) (Kd.R_types ay.out ab.out (by decide)) (fun _ hk => hk.2) (.int .i64 am)) (fun _ hk => hk.2) (.int .i64 au)) (fun _ hk => hk.2) (.int .i64 aw)) (fun _ hk => hk.2) (.slice az ao.length aA)) (fun _ hk => hk.2) (.slice aC av.length aD)) (fun _ hk => by first|exact hk.1.2|exact hk.1)⟩,⟨by (with_reducible repeat (first|apply Kd.R_alloc|apply Kd.R_drewN|apply Kd.R_drew));exact Kd.R_mono (Kd.R_far (p := ⟨ar,4,none⟩) (Kd.R_far (p := ⟨ar,3,none⟩) (Kd.R_far (p := ⟨ar,2,none⟩) (Kd.R_far (p := ⟨ar,1,none⟩) (Kd.R_far (p := ⟨ar,0,none⟩) (Kd.R_types aG.out ab.out (by decide)) (fun _ hk => hk.2) (.int .i64 am)) (fun _ hk => hk.2) (.int .i64 au)) (fun _ hk => hk.2) (.int .i64 aw)) (fun _ hk => hk.2) (.slice az ao.length aA)) (fun _ hk => hk.2) (.slice aC av.length aD)) (fun _ hk => by first|exact hk.1.2|exact hk.1)⟩,⟨by first|exact Kd.R_nil _ _ _ _ _|exact Kd.N_nil _ _ _ _ _|exact Kd.V_nil _ _ _ _ _|exact Kd.Q_nil _ _ _ _ _|exact Kd.S_nil _ _ _ _ _⟩,⟨by refine kO ?_;refine blk_far ?_ ac.out _;refine kO ?_;refine blk_far ?_ ac.out _;refine kO ?_;refine blk_far ?_ ac.out _;refine kO ?_;refine blk_far ?_ ac.out _;refine kO ?_;refine blk_far ?_ ac.out _;refine kO ?_;exact aa.out⟩,⟨by refine kO ?_;refine blk_put (cs := #[.int .i64 am,.int .i64 au,.int .i64 aw,.slice az ao.length aA,.slice none 0 0,.slice none 0 0]) ?_ 4 _ rfl;refine kO ?_;refine blk_put (cs := #[.int .i64 am,.int .i64 au,.int .i64 aw,.slice none 0 0,.slice none 0 0,.slice none 0 0]) ?_ 3 _ rfl;refine kO ?_;refine blk_put (cs := #[.int .i64 am,.int .i64 au,.int .i64 0,.slice none 0 0,.slice none 0 0,.slice none 0 0]) ?_ 2 _ rfl;refine kO ?_;refine blk_put (cs := #[.int .i64 am,.int .i64 0,.int .i64 0,.slice none 0 0,.slice none 0 0,.slice none 0 0]) ?_ 1 _ rfl;refine kO ?_;refine blk_put (cs := #[.int .i64 0,.int .i64 0,.int .i64 0,.slice none 0 0,.slice none 0 0,.slice none 0 0]) ?_ 0 _ rfl;refine kO ?_;exact ab.out⟩,⟨bG HB.out⟩⟩
       case round =>
        clear H'
        try clear p2
        try clear c10
        try clear bF
        try clear bH
        try clear bI
        try clear bJ
        try clear bK
        try clear bL
        try clear bN
        try clear bO
        try clear bP
        try clear bj
        try clear bk
        try clear bm
        try clear bn
        try clear bo
        try clear bp
        try clear bq
        try clear br
        try clear bs
        try clear bu
        try clear bv
        try clear bx
        try clear p2
        obtain ⟨aT,aM,aq,ah,ad,af,ax,rfl,rfl,HA,cG,ak,al,ag,aa,ab,HB⟩ := hrel
        cases gk with
       |zero => exact absurd HA.out (by simp [r33_Decode.l0])
       |succ k2 =>
         have H := HA.out
         clear HA
         simp only [r33_Decode.l0] at H
         by_cases bW : aM < aV
         ·rw [if_pos bW] at H
          have b4 := decide_eq_true bW
          clear bW
          replace H := Option.bind_eq_some_iff.mp H
          obtain ⟨⟨a2,bd,bz⟩,b5,H⟩ := H
          replace H : (if bz = 0 then (if af.length < 8796093022208 then (r33_Decode.l0 k2 l0 bd aV (wrap64 (aM + 1)) am au aw ao av (af ++ [a2])) else (none)) else (some (0,0,0,([] : List Int),([] : List Int),([] : List ByteArray),3))) = some (r1,r2,r3,r4,r5,r6,r7) := H
          have cH := aK b5
          clear b5
          by_cases bV : bz = 0
          ·rw [if_pos bV] at H
           have b6 := beq_iff_eq.mpr bV
           have b7 := bne_eq_false_iff_eq.mpr bV
           clear bV
           obtain ⟨cI,H⟩ := iS H
           have b8 := aK cI
           clear cI
           obtain ⟨a3,aU⟩ : ∃ y_ : List ByteArray,y_ = (af ++ [a2]) := ⟨_,rfl⟩
           replace H : (r33_Decode.l0 k2 l0 bd aV (wrap64 (aM + 1)) am au aw ao av a3) = some (r1,r2,r3,r4,r5,r6,r7) := by first|(rw [aU];with_reducible exact H)|(have cm := (Option.bind_some _ _).symm.trans H;rw [aU];with_reducible exact cm)|(have cm := (Option.bind_some _ _).symm.trans H;with_reducible exact cm)|with_reducible exact H|(rw [aU];exact H)|exact H
           have b9 := aK aU
           clear aU
           have H' := aK H
           clear H
           go_wp2_with (first|((with_reducible refine gate_callee (f := 40) rfl ?_);refine gL 104 Tryz.func40 #[.slice A0 l0.length c0,.int .i64 aT,.int .i64 (l0.length : Int)] ?_;(with_reducible refine (r03_GetString.calls k2 _ _ l0 aT (l0.length : Int) a2 bd bz _ ?ai ?aj cH.out).mono ?_);(case ai => exact cM (Kd.C_below aX.out HB.out));(case aj => exact aY.out);rintro e w' ⟨rfl,⟨nd,rfl⟩⟩;refine ⟨_,rfl,?_⟩;(try (rw [drewN_self wr];generalize hq_ : World.drewN wr _ = wr;have a8 : Aside0 (Kd.R (Kd.int .i64) 3 wr w.heap.size (fun k_ => some k_ ≠ (.slice aC av.length aD : Value).ownBlock) (.slice az ao.length aA) ao) := ⟨by rw [← hq_];exact (rM ak.out)⟩;have a9 : Aside0 (Kd.R (Kd.int .i64) 3 wr w.heap.size (fun k_ => some k_ ≠ (.slice az ao.length aA : Value).ownBlock) (.slice aC av.length aD) av) := ⟨by rw [← hq_];exact (rM al.out)⟩;have ba : Aside0 (Kd.R Kd.string 9 wr w.heap.size (fun _ => True) ax af) := ⟨by rw [← hq_];exact (rM ag.out)⟩;have bb : Aside0 (wr.heap[ae]? = some (.cells #[.int .i64 aq,.int .i64 ah,.int .i64 ad,.slice none 0 0,.slice none 0 0,.slice none 0 0] 30 (0,0))) := ⟨by rw [← hq_];exact (kM aa.out)⟩;have bc : Aside0 (wr.heap[ar]? = some (.cells #[.int .i64 am,.int .i64 au,.int .i64 aw,.slice az ao.length aA,.slice aC av.length aD,ax] 30 (0,0))) := ⟨by rw [← hq_];exact (kM ab.out)⟩;have ca : Aside0 (Below w.heap.size w wr) := ⟨by rw [← hq_];exact (bG HB.out)⟩;clear ak al ag aa ab HB hq_;have ak := a8;have al := a9;have ag := ba;have aa := bb;have ab := bc;have HB := ca;clear a8 a9 ba bb bc ca));have cJ := ap.out;have cK := ac.out;obtain ⟨_,_,_,_,_,_,_,_,_,_,_,_⟩ := bk6_ ab.out)|((with_reducible refine gate_builtin (b := .append) (xs := #[.tmp 112,.tmp 114]) rfl ?_);at_builtin;refine Kd.R_append Kd.string (w0 := w) w.heap.size rfl (.tmp 112) (.tmp 114) 28 9 (.string ⟨#[]⟩) 16 rfl Tryz.underlying28 info9 rfl (by decide) (by omega) ax af a2 [.string a2] (fun _ => True) (fun _ => False) rfl rfl ?aP (fun _ hk => hk.elim) ?aF ?aO ?aB ?aS ?aL ?_;(case aP => exact rfl);(case aB => exact (bG HB.out));(case aF => exact (fun _ _ => trivial));(case aO => exact (rM ag.out));(case aS => exact (below_size (bG HB.out)));(case aL => have := b8.out;omega);intro da dc ho hb hg hat;rw [← b9.out] at ho;replace ak := aK (Kd.R_over' (rM ak.out) (Kd.R_typed (rM ag.out)) (by decide) hg);replace al := aK (Kd.R_over' (rM al.out) (Kd.R_typed (rM ag.out)) (by decide) hg);replace aa := aK (blk_grown (g := ae) (o := .cells #[.int .i64 aq,.int .i64 ah,.int .i64 ad,.slice none 0 0,.slice none 0 0,.slice none 0 0] 30 (0,0)) (kM aa.out) hg (Kd.R_ne ag.out aa.out (by decide)));replace ab := aK (blk_grown (g := ar) (o := .cells #[.int .i64 am,.int .i64 au,.int .i64 aw,.slice az ao.length aA,.slice aC av.length aD,ax] 30 (0,0)) (kM ab.out) hg (Kd.R_ne ag.out ab.out (by decide)));replace HB := aK (hb);have bR := aK (ho);clear ho hb hg hat;obtain ⟨bB,bC,cn⟩ := Kd.R_slice bR.out;subst cn;obtain ⟨_,_,_,_,_,_,_,_,_,_,_,_⟩ := bk6_ ab.out))
           go_roundg k2
           case measure => have := cA.out;have := cG.out;omega
           case rel => exact ⟨(bd),(wrap64 (aM + 1)),(aq),(ah),(ad),(a3),(.slice bB a3.length bC),(by first|rfl|(simp;done)|(simp [*];done)),(by first|rfl|(simp;done)|(simp [*];done)),H',⟨by have := cA.out;have := cG.out;omega⟩,⟨by (with_reducible repeat (first|apply Kd.R_alloc|apply Kd.R_drewN|apply Kd.R_drew));exact Kd.R_mono (Kd.R_far (p := ⟨ar,5,none⟩) (Kd.R_types ak.out ab.out (by decide)) (fun _ hk => hk.2) (.slice bB a3.length bC)) (fun _ hk => hk.1)⟩,⟨by (with_reducible repeat (first|apply Kd.R_alloc|apply Kd.R_drewN|apply Kd.R_drew));exact Kd.R_mono (Kd.R_far (p := ⟨ar,5,none⟩) (Kd.R_types al.out ab.out (by decide)) (fun _ hk => hk.2) (.slice bB a3.length bC)) (fun _ hk => hk.1)⟩,⟨by (with_reducible repeat (first|apply Kd.R_alloc|apply Kd.R_drewN|apply Kd.R_drew));exact Kd.R_mono (Kd.R_far (p := ⟨ar,5,none⟩) (Kd.R_types bR.out ab.out (by decide)) (fun _ hk => hk.2) (.slice bB a3.length bC)) (fun _ hk => trivial)⟩,⟨by refine kO ?_;refine blk_far ?_ ac.out _;refine kO ?_;exact aa.out⟩,⟨by refine kO ?_;refine blk_put (cs := #[.int .i64 am,.int .i64 au,.int .i64 aw,.slice az ao.length aA,.slice aC av.length aD,ax]) ?_ 5 _ rfl;refine kO ?_;exact ab.out⟩,⟨bG HB.out⟩⟩
          ·rw [if_neg bV] at H
           have b6 := beq_eq_false_iff_ne.mpr bV
           have b7 := bne_iff_ne.mpr bV
           simp only [Option.some.injEq,Prod.mk.injEq] at H
           obtain ⟨rfl,rfl,rfl,rfl,rfl,rfl,rfl⟩ := H
           go_wp2_with (first|((with_reducible refine gate_callee (f := 40) rfl ?_);refine gL 104 Tryz.func40 #[.slice A0 l0.length c0,.int .i64 aT,.int .i64 (l0.length : Int)] ?_;(with_reducible refine (r03_GetString.calls k2 _ _ l0 aT (l0.length : Int) a2 bd bz _ ?ai ?aj cH.out).mono ?_);(case ai => exact cM (Kd.C_below aX.out HB.out));(case aj => exact aY.out);rintro e w' ⟨rfl,⟨nd,rfl⟩⟩;refine ⟨_,rfl,?_⟩;(try (rw [drewN_self wr];generalize hq_ : World.drewN wr _ = wr;have a8 : Aside0 (Kd.R (Kd.int .i64) 3 wr w.heap.size (fun k_ => some k_ ≠ (.slice aC av.length aD : Value).ownBlock) (.slice az ao.length aA) ao) := ⟨by rw [← hq_];exact (rM ak.out)⟩;have a9 : Aside0 (Kd.R (Kd.int .i64) 3 wr w.heap.size (fun k_ => some k_ ≠ (.slice az ao.length aA : Value).ownBlock) (.slice aC av.length aD) av) := ⟨by rw [← hq_];exact (rM al.out)⟩;have ba : Aside0 (Kd.R Kd.string 9 wr w.heap.size (fun _ => True) ax af) := ⟨by rw [← hq_];exact (rM ag.out)⟩;have bb : Aside0 (wr.heap[ae]? = some (.cells #[.int .i64 aq,.int .i64 ah,.int .i64 ad,.slice none 0 0,.slice none 0 0,.slice none 0 0] 30 (0,0))) := ⟨by rw [← hq_];exact (kM aa.out)⟩;have bc : Aside0 (wr.heap[ar]? = some (.cells #[.int .i64 am,.int .i64 au,.int .i64 aw,.slice az ao.length aA,.slice aC av.length aD,ax] 30 (0,0))) := ⟨by rw [← hq_];exact (kM ab.out)⟩;have ca : Aside0 (Below w.heap.size w wr) := ⟨by rw [← hq_];exact (bG HB.out)⟩;clear ak al ag aa ab HB hq_;have ak := a8;have al := a9;have ag := ba;have aa := bb;have ab := bc;have HB := ca;clear a8 a9 ba bb bc ca));have cL := ac.out;have cN := ap.out;obtain ⟨_,_,_,_,_,_,_,_,_,_,_,_⟩ := bk6_ aa.out))
           refine bodyPost_ret (results_ct rfl _ _ ae 30 #[.int .i64 0,.int .i64 0,.int .i64 0,.slice none 0 0,.slice none 0 0,.slice none 0 0] (0,0) _ rfl (by refine kO ?_;refine blk_put (cs := #[.int .i64 0,.int .i64 0,.int .i64 0,.slice none 0 0,.slice none 0 0,.slice none 0 0]) ?_ 5 _ rfl;refine kO ?_;refine blk_put (cs := #[.int .i64 0,.int .i64 0,.int .i64 0,.slice none 0 0,.slice none 0 0,.slice none 0 0]) ?_ 4 _ rfl;refine kO ?_;refine blk_put (cs := #[.int .i64 0,.int .i64 0,.int .i64 0,.slice none 0 0,.slice none 0 0,.slice none 0 0]) ?_ 3 _ rfl;refine kO ?_;refine blk_put (cs := #[.int .i64 0,.int .i64 0,.int .i64 ad,.slice none 0 0,.slice none 0 0,.slice none 0 0]) ?_ 2 _ rfl;refine kO ?_;refine blk_put (cs := #[.int .i64 0,.int .i64 ah,.int .i64 ad,.slice none 0 0,.slice none 0 0,.slice none 0 0]) ?_ 1 _ rfl;refine kO ?_;refine blk_put (cs := #[.int .i64 aq,.int .i64 ah,.int .i64 ad,.slice none 0 0,.slice none 0 0,.slice none 0 0]) ?_ 0 _ rfl;refine kO ?_;exact aa.out) Tryz.underlying30 rfl (by kernel_rfl)) rfl ?_
           exact ⟨_,_,_,by first|rfl|(simp [errW_none,errW_some] <;> rfl)|(simp [*,errW_none,errW_some] <;> rfl),by first|exact Kd.R_nil _ _ _ _ _|exact Kd.N_nil _ _ _ _ _|exact Kd.V_nil _ _ _ _ _|exact Kd.Q_nil _ _ _ _ _|exact Kd.S_nil _ _ _ _ _,by first|exact Kd.R_nil _ _ _ _ _|exact Kd.N_nil _ _ _ _ _|exact Kd.V_nil _ _ _ _ _|exact Kd.Q_nil _ _ _ _ _|exact Kd.S_nil _ _ _ _ _,by first|exact Kd.R_nil _ _ _ _ _|exact Kd.N_nil _ _ _ _ _|exact Kd.V_nil _ _ _ _ _|exact Kd.Q_nil _ _ _ _ _|exact Kd.S_nil _ _ _ _ _,bG HB.out⟩
         ·rw [if_neg bW] at H
          have b4 := decide_eq_false bW
          clear bW
          by_cases c36 : aT = (l0.length : Int)
          ·rw [if_pos c36] at H
           have cb := beq_iff_eq.mpr c36
           have cc := bne_eq_false_iff_eq.mpr c36
           clear c36
           simp only [Option.some.injEq,Prod.mk.injEq] at H
           obtain ⟨rfl,rfl,rfl,rfl,rfl,rfl,rfl⟩ := H
           have cO := ap.out
           have cP := ac.out
           obtain ⟨_,_,_,_,_,_,_,_,_,_,_,_⟩ := bk6_ ab.out
           obtain ⟨_,_,_,_,_,_,_,_,_,_,_,_⟩ := bk6_ aa.out
           obtain ⟨bD,bE,co⟩ := Kd.R_slice ag.out
           subst co
           go_wp2
           refine bodyPost_ret (results_ct rfl _ _ ae 30 #[.int .i64 am,.int .i64 au,.int .i64 aw,.slice az ao.length aA,.slice aC av.length aD,.slice bD af.length bE] (0,0) _ rfl (by refine kO ?_;refine blk_put (cs := #[.int .i64 am,.int .i64 au,.int .i64 aw,.slice az ao.length aA,.slice aC av.length aD,.slice none 0 0]) ?_ 5 _ rfl;refine kO ?_;refine blk_put (cs := #[.int .i64 am,.int .i64 au,.int .i64 aw,.slice az ao.length aA,.slice none 0 0,.slice none 0 0]) ?_ 4 _ rfl;refine kO ?_;refine blk_put (cs := #[.int .i64 am,.int .i64 au,.int .i64 aw,.slice none 0 0,.slice none 0 0,.slice none 0 0]) ?_ 3 _ rfl;refine kO ?_;refine blk_put (cs := #[.int .i64 am,.int .i64 au,.int .i64 ad,.slice none 0 0,.slice none 0 0,.slice none 0 0]) ?_ 2 _ rfl;refine kO ?_;refine blk_put (cs := #[.int .i64 am,.int .i64 ah,.int .i64 ad,.slice none 0 0,.slice none 0 0,.slice none 0 0]) ?_ 1 _ rfl;refine kO ?_;refine blk_put (cs := #[.int .i64 aq,.int .i64 ah,.int .i64 ad,.slice none 0 0,.slice none 0 0,.slice none 0 0]) ?_ 0 _ rfl;refine kO ?_;exact aa.out) Tryz.underlying30 rfl (by kernel_rfl)) rfl ?_
           exact ⟨_,_,_,by first|rfl|(simp [errW_none,errW_some] <;> rfl)|(simp [*,errW_none,errW_some] <;> rfl),by (with_reducible repeat (first|apply Kd.R_alloc|apply Kd.R_drewN|apply Kd.R_drew));exact Kd.R_mono (Kd.R_far (p := ⟨ae,5,none⟩) (Kd.R_far (p := ⟨ae,4,none⟩) (Kd.R_far (p := ⟨ae,3,none⟩) (Kd.R_far (p := ⟨ae,2,none⟩) (Kd.R_far (p := ⟨ae,1,none⟩) (Kd.R_far (p := ⟨ae,0,none⟩) (Kd.R_types ak.out aa.out (by decide)) (fun _ hk => hk.2) (.int .i64 am)) (fun _ hk => hk.2) (.int .i64 au)) (fun _ hk => hk.2) (.int .i64 aw)) (fun _ hk => hk.2) (.slice az ao.length aA)) (fun _ hk => hk.2) (.slice aC av.length aD)) (fun _ hk => hk.2) (.slice bD af.length bE)) (fun _ hk => hk.1),by (with_reducible repeat (first|apply Kd.R_alloc|apply Kd.R_drewN|apply Kd.R_drew));exact Kd.R_mono (Kd.R_far (p := ⟨ae,5,none⟩) (Kd.R_far (p := ⟨ae,4,none⟩) (Kd.R_far (p := ⟨ae,3,none⟩) (Kd.R_far (p := ⟨ae,2,none⟩) (Kd.R_far (p := ⟨ae,1,none⟩) (Kd.R_far (p := ⟨ae,0,none⟩) (Kd.R_types al.out aa.out (by decide)) (fun _ hk => hk.2) (.int .i64 am)) (fun _ hk => hk.2) (.int .i64 au)) (fun _ hk => hk.2) (.int .i64 aw)) (fun _ hk => hk.2) (.slice az ao.length aA)) (fun _ hk => hk.2) (.slice aC av.length aD)) (fun _ hk => hk.2) (.slice bD af.length bE)) (fun _ hk => hk.1),by (with_reducible repeat (first|apply Kd.R_alloc|apply Kd.R_drewN|apply Kd.R_drew));exact Kd.R_mono (Kd.R_far (p := ⟨ae,5,none⟩) (Kd.R_far (p := ⟨ae,4,none⟩) (Kd.R_far (p := ⟨ae,3,none⟩) (Kd.R_far (p := ⟨ae,2,none⟩) (Kd.R_far (p := ⟨ae,1,none⟩) (Kd.R_far (p := ⟨ae,0,none⟩) (Kd.R_types ag.out aa.out (by decide)) (fun _ hk => hk.2) (.int .i64 am)) (fun _ hk => hk.2) (.int .i64 au)) (fun _ hk => hk.2) (.int .i64 aw)) (fun _ hk => hk.2) (.slice az ao.length aA)) (fun _ hk => hk.2) (.slice aC av.length aD)) (fun _ hk => hk.2) (.slice bD af.length bE)) (fun _ hk => trivial),bG HB.out⟩
          ·rw [if_neg c36] at H
           have cb := beq_eq_false_iff_ne.mpr c36
           have cc := bne_iff_ne.mpr c36
           simp only [Option.some.injEq,Prod.mk.injEq] at H
           obtain ⟨rfl,rfl,rfl,rfl,rfl,rfl,rfl⟩ := H
           have cQ := ac.out
           have cR := ap.out
           obtain ⟨_,_,_,_,_,_,_,_,_,_,_,_⟩ := bk6_ aa.out
           go_wp2
           refine bodyPost_ret (results_ct rfl _ _ ae 30 #[.int .i64 0,.int .i64 0,.int .i64 0,.slice none 0 0,.slice none 0 0,.slice none 0 0] (0,0) _ rfl (by refine kO ?_;refine blk_put (cs := #[.int .i64 0,.int .i64 0,.int .i64 0,.slice none 0 0,.slice none 0 0,.slice none 0 0]) ?_ 5 _ rfl;refine kO ?_;refine blk_put (cs := #[.int .i64 0,.int .i64 0,.int .i64 0,.slice none 0 0,.slice none 0 0,.slice none 0 0]) ?_ 4 _ rfl;refine kO ?_;refine blk_put (cs := #[.int .i64 0,.int .i64 0,.int .i64 0,.slice none 0 0,.slice none 0 0,.slice none 0 0]) ?_ 3 _ rfl;refine kO ?_;refine blk_put (cs := #[.int .i64 0,.int .i64 0,.int .i64 ad,.slice none 0 0,.slice none 0 0,.slice none 0 0]) ?_ 2 _ rfl;refine kO ?_;refine blk_put (cs := #[.int .i64 0,.int .i64 ah,.int .i64 ad,.slice none 0 0,.slice none 0 0,.slice none 0 0]) ?_ 1 _ rfl;refine kO ?_;refine blk_put (cs := #[.int .i64 aq,.int .i64 ah,.int .i64 ad,.slice none 0 0,.slice none 0 0,.slice none 0 0]) ?_ 0 _ rfl;refine kO ?_;exact aa.out) Tryz.underlying30 rfl (by kernel_rfl)) rfl ?_
           exact ⟨_,_,_,by first|rfl|(simp [errW_none,errW_some] <;> rfl)|(simp [*,errW_none,errW_some] <;> rfl),by first|exact Kd.R_nil _ _ _ _ _|exact Kd.N_nil _ _ _ _ _|exact Kd.V_nil _ _ _ _ _|exact Kd.Q_nil _ _ _ _ _|exact Kd.S_nil _ _ _ _ _,by first|exact Kd.R_nil _ _ _ _ _|exact Kd.N_nil _ _ _ _ _|exact Kd.V_nil _ _ _ _ _|exact Kd.Q_nil _ _ _ _ _|exact Kd.S_nil _ _ _ _ _,by first|exact Kd.R_nil _ _ _ _ _|exact Kd.N_nil _ _ _ _ _|exact Kd.V_nil _ _ _ _ _|exact Kd.Q_nil _ _ _ _ _|exact Kd.S_nil _ _ _ _ _,bG HB.out⟩
      ·rw [if_neg bN] at H
       have bO := beq_eq_false_iff_ne.mpr bN
       have bP := bne_iff_ne.mpr bN
       simp only [Option.some.injEq,Prod.mk.injEq] at H
       obtain ⟨rfl,rfl,rfl,rfl,rfl,rfl,rfl⟩ := H
       go_wp2_with (first|((with_reducible refine gate_callee (f := 39) rfl ?_);refine gL 55 Tryz.func39 #[.slice A0 l0.length c0,.int .i64 aH,.int .i64 (l0.length : Int)] ?_;(with_reducible refine (r03_GetList.calls kj4 _ _ l0 aH (l0.length : Int) ao aI a0 _ ?ai ?aj cd.out).mono ?_);(case ai => exact cM (Kd.C_below aX.out HB.out));(case aj => exact aY.out);rintro e dd ⟨aW,rfl,aN,hb⟩;refine ⟨_,rfl,?_⟩;have ay := aK (Kd.R_lower aN (below_size (bG HB.out)));replace aa := aK (blk_below (kM aa.out) hb);replace ab := aK (blk_below (kM ab.out) hb);replace HB := aK (below_step (bG HB.out) hb);(try clear hb);(try clear hk);(try clear aN))|((with_reducible refine gate_callee (f := 39) rfl ?_);refine gL 67 Tryz.func39 #[.slice A0 l0.length c0,.int .i64 aI,.int .i64 (l0.length : Int)] ?_;(with_reducible refine (r03_GetList.calls kj4 _ _ l0 aI (l0.length : Int) av aR a7 _ ?ai ?aj cj.out).mono ?_);(case ai => exact cM (Kd.C_below aX.out HB.out));(case aj => exact aY.out);rintro e bS ⟨a1,rfl,aN,hb⟩;refine ⟨_,rfl,?_⟩;have aG := aK (Kd.R_lower (Kd.R_new' aN (Kd.R_lt (rM ay.out))) (below_size (bG HB.out)));replace ay := aK (Kd.R_elder' (rM ay.out) (Kd.R_base aN) hb);replace aa := aK (blk_below (kM aa.out) hb);replace ab := aK (blk_below (kM ab.out) hb);replace HB := aK (below_step (bG HB.out) hb);(try clear hb);(try clear hk);(try clear aN))|((with_reducible refine gate_callee (f := 38) rfl ?_);refine gL 77 Tryz.func38 #[.slice A0 l0.length c0,.int .i64 aR] ?_;(with_reducible refine (r03_Get.calls kj4 _ _ l0 aR aV bh bi _ ?ai ?aj cD.out).mono ?_);(case ai => exact cM (Kd.C_below aX.out HB.out));(case aj => exact aY.out);rintro e w' ⟨rfl,⟨nd,rfl⟩⟩;refine ⟨_,rfl,?_⟩;(try (rw [drewN_self bS];generalize hq_ : World.drewN bS _ = bS;have a8 : Aside0 (Kd.R (Kd.int .i64) 3 bS w.heap.size (fun k_ => some k_ ≠ (a1 : Value).ownBlock) aW ao) := ⟨by rw [← hq_];exact (by (with_reducible repeat (first|apply Kd.R_alloc|apply Kd.R_drewN|apply Kd.R_drew));exact Kd.R_mono ay.out (fun _ hk => hk.2))⟩;have a9 : Aside0 (Kd.R (Kd.int .i64) 3 bS w.heap.size (fun k_ => some k_ ≠ (aW : Value).ownBlock) a1 av) := ⟨by rw [← hq_];exact (by (with_reducible repeat (first|apply Kd.R_alloc|apply Kd.R_drewN|apply Kd.R_drew));exact Kd.R_mono aG.out (fun _ hk => hk.2))⟩;have ba : Aside0 (bS.heap[ae]? = some (.cells #[.int .i64 0,.int .i64 0,.int .i64 0,.slice none 0 0,.slice none 0 0,.slice none 0 0] 30 (0,0))) := ⟨by rw [← hq_];exact (kM aa.out)⟩;have bb : Aside0 (bS.heap[ar]? = some (.cells #[.int .i64 0,.int .i64 0,.int .i64 0,.slice none 0 0,.slice none 0 0,.slice none 0 0] 30 (0,0))) := ⟨by rw [← hq_];exact (kM ab.out)⟩;have bc : Aside0 (Below w.heap.size w bS) := ⟨by rw [← hq_];exact (bG HB.out)⟩;clear ay aG aa ab HB hq_;have ay := a8;have aG := a9;have aa := ba;have ab := bb;have HB := bc;clear a8 a9 ba bb bc));have cS := ac.out;have cT := ap.out;obtain ⟨_,_,_,_,_,_,_,_,_,_,_,_⟩ := bk6_ aa.out))
       refine bodyPost_ret (results_ct rfl _ _ ae 30 #[.int .i64 0,.int .i64 0,.int .i64 0,.slice none 0 0,.slice none 0 0,.slice none 0 0] (0,0) _ rfl (by refine kO ?_;refine blk_put (cs := #[.int .i64 0,.int .i64 0,.int .i64 0,.slice none 0 0,.slice none 0 0,.slice none 0 0]) ?_ 5 _ rfl;refine kO ?_;refine blk_put (cs := #[.int .i64 0,.int .i64 0,.int .i64 0,.slice none 0 0,.slice none 0 0,.slice none 0 0]) ?_ 4 _ rfl;refine kO ?_;refine blk_put (cs := #[.int .i64 0,.int .i64 0,.int .i64 0,.slice none 0 0,.slice none 0 0,.slice none 0 0]) ?_ 3 _ rfl;refine kO ?_;refine blk_put (cs := #[.int .i64 0,.int .i64 0,.int .i64 0,.slice none 0 0,.slice none 0 0,.slice none 0 0]) ?_ 2 _ rfl;refine kO ?_;refine blk_put (cs := #[.int .i64 0,.int .i64 0,.int .i64 0,.slice none 0 0,.slice none 0 0,.slice none 0 0]) ?_ 1 _ rfl;refine kO ?_;refine blk_put (cs := #[.int .i64 0,.int .i64 0,.int .i64 0,.slice none 0 0,.slice none 0 0,.slice none 0 0]) ?_ 0 _ rfl;refine kO ?_;exact aa.out) Tryz.underlying30 rfl (by kernel_rfl)) rfl ?_
       exact ⟨_,_,_,by first|rfl|(simp [errW_none,errW_some] <;> rfl)|(simp [*,errW_none,errW_some] <;> rfl),by first|exact Kd.R_nil _ _ _ _ _|exact Kd.N_nil _ _ _ _ _|exact Kd.V_nil _ _ _ _ _|exact Kd.Q_nil _ _ _ _ _|exact Kd.S_nil _ _ _ _ _,by first|exact Kd.R_nil _ _ _ _ _|exact Kd.N_nil _ _ _ _ _|exact Kd.V_nil _ _ _ _ _|exact Kd.Q_nil _ _ _ _ _|exact Kd.S_nil _ _ _ _ _,by first|exact Kd.R_nil _ _ _ _ _|exact Kd.N_nil _ _ _ _ _|exact Kd.V_nil _ _ _ _ _|exact Kd.Q_nil _ _ _ _ _|exact Kd.S_nil _ _ _ _ _,bG HB.out⟩
     ·rw [if_neg bJ] at H
      have bK := beq_eq_false_iff_ne.mpr bJ
      have bL := bne_iff_ne.mpr bJ
      simp only [Option.some.injEq,Prod.mk.injEq] at H
      obtain ⟨rfl,rfl,rfl,rfl,rfl,rfl,rfl⟩ := H
      go_wp2_with (first|((with_reducible refine gate_callee (f := 39) rfl ?_);refine gL 55 Tryz.func39 #[.slice A0 l0.length c0,.int .i64 aH,.int .i64 (l0.length : Int)] ?_;(with_reducible refine (r03_GetList.calls kj4 _ _ l0 aH (l0.length : Int) ao aI a0 _ ?ai ?aj cd.out).mono ?_);(case ai => exact cM (Kd.C_below aX.out HB.out));(case aj => exact aY.out);rintro e de ⟨aW,rfl,aN,hb⟩;refine ⟨_,rfl,?_⟩;replace aa := aK (blk_below (kM aa.out) hb);replace HB := aK (below_step (bG HB.out) hb);(try clear hb);(try clear hk);(try clear aN))|((with_reducible refine gate_callee (f := 39) rfl ?_);refine gL 67 Tryz.func39 #[.slice A0 l0.length c0,.int .i64 aI,.int .i64 (l0.length : Int)] ?_;(with_reducible refine (r03_GetList.calls kj4 _ _ l0 aI (l0.length : Int) av aR a7 _ ?ai ?aj cj.out).mono ?_);(case ai => exact cM (Kd.C_below aX.out HB.out));(case aj => exact aY.out);rintro e df ⟨a1,rfl,aN,hb⟩;refine ⟨_,rfl,?_⟩;replace aa := aK (blk_below (kM aa.out) hb);replace HB := aK (below_step (bG HB.out) hb);(try clear hb);(try clear hk);(try clear aN);have cU := ac.out;have cV := ap.out;obtain ⟨_,_,_,_,_,_,_,_,_,_,_,_⟩ := bk6_ aa.out))
      refine bodyPost_ret (results_ct rfl _ _ ae 30 #[.int .i64 0,.int .i64 0,.int .i64 0,.slice none 0 0,.slice none 0 0,.slice none 0 0] (0,0) _ rfl (by refine kO ?_;refine blk_put (cs := #[.int .i64 0,.int .i64 0,.int .i64 0,.slice none 0 0,.slice none 0 0,.slice none 0 0]) ?_ 5 _ rfl;refine kO ?_;refine blk_put (cs := #[.int .i64 0,.int .i64 0,.int .i64 0,.slice none 0 0,.slice none 0 0,.slice none 0 0]) ?_ 4 _ rfl;refine kO ?_;refine blk_put (cs := #[.int .i64 0,.int .i64 0,.int .i64 0,.slice none 0 0,.slice none 0 0,.slice none 0 0]) ?_ 3 _ rfl;refine kO ?_;refine blk_put (cs := #[.int .i64 0,.int .i64 0,.int .i64 0,.slice none 0 0,.slice none 0 0,.slice none 0 0]) ?_ 2 _ rfl;refine kO ?_;refine blk_put (cs := #[.int .i64 0,.int .i64 0,.int .i64 0,.slice none 0 0,.slice none 0 0,.slice none 0 0]) ?_ 1 _ rfl;refine kO ?_;refine blk_put (cs := #[.int .i64 0,.int .i64 0,.int .i64 0,.slice none 0 0,.slice none 0 0,.slice none 0 0]) ?_ 0 _ rfl;refine kO ?_;exact aa.out) Tryz.underlying30 rfl (by kernel_rfl)) rfl ?_
      exact ⟨_,_,_,by first|rfl|(simp [errW_none,errW_some] <;> rfl)|(simp [*,errW_none,errW_some] <;> rfl),by first|exact Kd.R_nil _ _ _ _ _|exact Kd.N_nil _ _ _ _ _|exact Kd.V_nil _ _ _ _ _|exact Kd.Q_nil _ _ _ _ _|exact Kd.S_nil _ _ _ _ _,by first|exact Kd.R_nil _ _ _ _ _|exact Kd.N_nil _ _ _ _ _|exact Kd.V_nil _ _ _ _ _|exact Kd.Q_nil _ _ _ _ _|exact Kd.S_nil _ _ _ _ _,by first|exact Kd.R_nil _ _ _ _ _|exact Kd.N_nil _ _ _ _ _|exact Kd.V_nil _ _ _ _ _|exact Kd.Q_nil _ _ _ _ _|exact Kd.S_nil _ _ _ _ _,bG HB.out⟩
    ·rw [if_neg bF] at H
     have bH := beq_eq_false_iff_ne.mpr bF
     have bI := bne_iff_ne.mpr bF
     simp only [Option.some.injEq,Prod.mk.injEq] at H
     obtain ⟨rfl,rfl,rfl,rfl,rfl,rfl,rfl⟩ := H
     go_wp2_with (first|((with_reducible refine gate_callee (f := 39) rfl ?_);refine gL 55 Tryz.func39 #[.slice A0 l0.length c0,.int .i64 aH,.int .i64 (l0.length : Int)] ?_;(with_reducible refine (r03_GetList.calls kj4 _ _ l0 aH (l0.length : Int) ao aI a0 _ ?ai ?aj cd.out).mono ?_);(case ai => exact cM (Kd.C_below aX.out HB.out));(case aj => exact aY.out);rintro e dg ⟨aW,rfl,aN,hb⟩;refine ⟨_,rfl,?_⟩;replace aa := aK (blk_below (kM aa.out) hb);replace HB := aK (below_step (bG HB.out) hb);(try clear hb);(try clear hk);(try clear aN);have cW := ac.out;have cX := ap.out;obtain ⟨_,_,_,_,_,_,_,_,_,_,_,_⟩ := bk6_ aa.out))
     refine bodyPost_ret (results_ct rfl _ _ ae 30 #[.int .i64 0,.int .i64 0,.int .i64 0,.slice none 0 0,.slice none 0 0,.slice none 0 0] (0,0) _ rfl (by refine kO ?_;refine blk_put (cs := #[.int .i64 0,.int .i64 0,.int .i64 0,.slice none 0 0,.slice none 0 0,.slice none 0 0]) ?_ 5 _ rfl;refine kO ?_;refine blk_put (cs := #[.int .i64 0,.int .i64 0,.int .i64 0,.slice none 0 0,.slice none 0 0,.slice none 0 0]) ?_ 4 _ rfl;refine kO ?_;refine blk_put (cs := #[.int .i64 0,.int .i64 0,.int .i64 0,.slice none 0 0,.slice none 0 0,.slice none 0 0]) ?_ 3 _ rfl;refine kO ?_;refine blk_put (cs := #[.int .i64 0,.int .i64 0,.int .i64 0,.slice none 0 0,.slice none 0 0,.slice none 0 0]) ?_ 2 _ rfl;refine kO ?_;refine blk_put (cs := #[.int .i64 0,.int .i64 0,.int .i64 0,.slice none 0 0,.slice none 0 0,.slice none 0 0]) ?_ 1 _ rfl;refine kO ?_;refine blk_put (cs := #[.int .i64 0,.int .i64 0,.int .i64 0,.slice none 0 0,.slice none 0 0,.slice none 0 0]) ?_ 0 _ rfl;refine kO ?_;exact aa.out) Tryz.underlying30 rfl (by kernel_rfl)) rfl ?_
     exact ⟨_,_,_,by first|rfl|(simp [errW_none,errW_some] <;> rfl)|(simp [*,errW_none,errW_some] <;> rfl),by first|exact Kd.R_nil _ _ _ _ _|exact Kd.N_nil _ _ _ _ _|exact Kd.V_nil _ _ _ _ _|exact Kd.Q_nil _ _ _ _ _|exact Kd.S_nil _ _ _ _ _,by first|exact Kd.R_nil _ _ _ _ _|exact Kd.N_nil _ _ _ _ _|exact Kd.V_nil _ _ _ _ _|exact Kd.Q_nil _ _ _ _ _|exact Kd.S_nil _ _ _ _ _,by first|exact Kd.R_nil _ _ _ _ _|exact Kd.N_nil _ _ _ _ _|exact Kd.V_nil _ _ _ _ _|exact Kd.Q_nil _ _ _ _ _|exact Kd.S_nil _ _ _ _ _,bG HB.out⟩
mutual
def r03_Put.l0 : Nat → List Int → Int → List Int → Int → Option (List Int)
|0,_,_,_,_ => none
|k + 1,x0,x1,x5,x6 => if x6 < (x0.length : Int) then (if 0 ≤ x6 then (if x5.length < 140737488355328 then (r03_Put.l0 k x0 x1 (x5 ++ [rd x0 x6]) (wrap64 (x6 + 1))) else (none)) else (none)) else (r03_Put.l1 k x5 (mx x1 0))
def r03_Put.l1 : Nat → List Int → Int → Option (List Int)
|0,_,_ => none
|k + 1,x5,x7 => if x7 ≥ 128 then (if x5.length < 140737488355328 then (r03_Put.l1 k (x5 ++ [(wrap64 ((Int.tmod x7 128) + 128)) % 256]) (wrap64 (Int.tdiv x7 128))) else (none)) else (if x5.length < 140737488355328 then (some (x5 ++ [(x7) % 256])) else (none))
end
def r03_Put.f (k : Nat) (l0 : List Int) (a1 : Int) : Option (List Int) := r03_Put.l0 k l0 a1 ([] : List Int) 0
theorem r03_Put.mono_l : ∀ k, (∀ y0 y1 y2 y3, LeO (r03_Put.l0 k y0 y1 y2 y3) (r03_Put.l0 (k + 1) y0 y1 y2 y3)) ∧ (∀ y0 y1, LeO (r03_Put.l1 k y0 y1) (r03_Put.l1 (k + 1) y0 y1))
|0 => ⟨fun _ _ _ _ r h => by simp [r03_Put.l0] at h,fun _ _ r h => by simp [r03_Put.l1] at h⟩
|k + 1 => by
  obtain ⟨ih0,ih1⟩ := r03_Put.mono_l k
  refine ⟨?_,?_⟩
  ·intro y0 y1 y2 y3
   unfold r03_Put.l0
   repeat' (with_reducible first|exact ih0 _ _ _ _|exact ih1 _ _|exact LeO.refl _|exact LeO.none _|refine LeO.ite ?_ ?_|refine LeO.bind ?_ (fun _ => ?_))
  ·intro y0 y1
   unfold r03_Put.l1
   repeat' (with_reducible first|exact ih1 _ _|exact LeO.refl _|exact LeO.none _|refine LeO.ite ?_ ?_|refine LeO.bind ?_ (fun _ => ?_))
theorem r03_Put.mono : ∀ a0 a1 k, LeO (r03_Put.f k a0 a1) (r03_Put.f (k + 1) a0 a1) := by
 intro a0 a1 k
 obtain ⟨ih0,ih1⟩ := r03_Put.mono_l k
 unfold r03_Put.f
 repeat' (with_reducible first|exact ih0 _ _ _ _|exact ih1 _ _|exact LeO.refl _|exact LeO.none _|refine LeO.ite ?_ ?_|refine LeO.bind ?_ (fun _ => ?_))
theorem r03_Put.calls (k : Nat) (A0 : Option Addr) (c0 : Nat) (l0 : List Int) (a1 : Int) (r : List Int) (w : World) (aJ : Kd.C (Kd.int .u8) w A0 l0.length l0) (aM : l0.length ≤ c0) (h : r03_Put.f k l0 a1 = some r) :
  Calls Tryz.prog 44 #[.slice A0 l0.length c0,.int .i64 a1] w fun e w' => ∃ aN : Value,e = .returned (aN) ∧ Kd.R (Kd.int .u8) 5 w' w.heap.size (fun _ => True) aN r ∧ Below w.heap.size w w' := by
 have aU := aK aJ
 have aZ := aK aM
 clear aJ aM
 have HB := aK (Below.refl w.heap.size w)
 have H : (r03_Put.l0 k l0 a1 ([] : List Int) 0) = some r := h
 clear h
 have H' := aK H
 clear H
 go_enter Tryz.func44,Tryz.ntmps44
 go_wp2
 go_loopg [5,6] k (fun kq v5 v6 w' => ∃ (ah : List Int) (aa : Int),v6 = .int .i64 aa ∧ Aside0 (r03_Put.l0 kq l0 a1 ah aa = some r) ∧ Aside0 (kq ≤ k) ∧ Aside0 (Kd.R (Kd.int .u8) 5 w' w.heap.size (fun _ => True) v5 ah) ∧ Aside0 (Below w.heap.size w w'))
 case atStart => exact ⟨(([] : List Int)),(0),(by first|rfl|(simp;done)|(simp [*];done)),H',⟨Nat.le_refl _⟩,⟨by first|exact Kd.R_nil _ _ _ _ _|exact Kd.N_nil _ _ _ _ _|exact Kd.V_nil _ _ _ _ _|exact Kd.Q_nil _ _ _ _ _|exact Kd.S_nil _ _ _ _ _⟩,⟨bM HB.out⟩⟩
 case round =>
  clear H'
  try clear p2
  obtain ⟨ah,aa,rfl,HA,az,ai,HB⟩ := hrel
  cases gk with
 |zero => exact absurd HA.out (by simp [r03_Put.l0])
 |succ k1 =>
   have H := HA.out
   clear HA
   simp only [r03_Put.l0] at H
   by_cases c3 : aa < (l0.length : Int)
   ·rw [if_pos c3] at H
    have an := decide_eq_true c3
    clear c3
    obtain ⟨c4,H⟩ := iS H
    have aV := decide_eq_true c4
    clear c4
    obtain ⟨c5,H⟩ := iS H
    have aC := aK c5
    clear c5
    obtain ⟨ao,ad⟩ : ∃ y_ : List Int,y_ = (ah ++ [rd l0 aa]) := ⟨_,rfl⟩
    replace H : (r03_Put.l0 k1 l0 a1 ao (wrap64 (aa + 1))) = some r := by first|(rw [ad];with_reducible exact H)|(have aj := (Option.bind_some _ _).symm.trans H;rw [ad];with_reducible exact aj)|(have aj := (Option.bind_some _ _).symm.trans H;with_reducible exact aj)|with_reducible exact H|(rw [ad];exact H)|exact H
    have ap := aK ad
    clear ad
    have H' := aK H
    clear H
    have al : 0 ≤ (aa : Int) := dA
    have am : aa < (l0.length : Int) := dA
    obtain ⟨aQ,aD,ac⟩ := Kd.at_int aU.out aa al am
    cases aD
    replace ac := xM HB ac
    replace al := eq_true al
    replace am := eq_true am
    go_wp2_with (first|((with_reducible refine gate_builtin (b := .append) (xs := #[.tmp 14,.tmp 19]) rfl ?_);at_builtin;refine Kd.R_append (Kd.int .u8) (w0 := w) w.heap.size rfl (.tmp 14) (.tmp 19) 31 5 (.int .u8 0) 1 rfl Tryz.underlying31 info5 rfl (by decide) (by omega) u5 ah (rd l0 aa) [.int .u8 (rd l0 aa)] (fun _ => True) (fun _ => False) rfl rfl ?aP (fun _ hk => hk.elim) ?aF ?aO ?aB ?aS ?aL ?_;(case aP => exact rfl);(case aB => exact (bM HB.out));(case aF => exact (fun _ _ => trivial));(case aO => exact (rM ai.out));(case aS => exact (below_size (bM HB.out)));(case aL => have := aC.out;omega);intro aW w6 ho hb hg hat;rw [← ap.out] at ho;replace HB := aK (hb);have aq := aK (ho);clear ho hb hg hat))
    go_roundg k1
    case measure => have := az.out;omega
    case rel => exact ⟨(ao),(wrap64 (aa + 1)),(by first|rfl|(simp;done)|(simp [*];done)),H',⟨by have := az.out;omega⟩,⟨rM aq.out⟩,⟨bM HB.out⟩⟩
   ·rw [if_neg c3] at H
    have an := decide_eq_false c3
    clear c3
    obtain ⟨aE,ak⟩ : ∃ j_ : Int,(mx a1 0) = j_ := ⟨_,rfl⟩
    replace H : (r03_Put.l1 k1 ah aE) = some r := by first|(rw [ak] at H;exact H)|(simp only [ak] at H ⊢;exact H)
    have aR : (if a1 < 0 then 0 else a1) = aE := ak
    have H' := aK H
    clear H
    go_wp2
    go_loopg [5,7] k1 (fun kq v5 v7 w' => ∃ (ae : List Int) (ab : Int),v7 = .int .i64 ab ∧ Aside0 (r03_Put.l1 kq ae ab = some r) ∧ Aside0 (kq ≤ k1) ∧ Aside0 (Kd.R (Kd.int .u8) 5 w' w.heap.size (fun _ => True) v5 ae) ∧ Aside0 (Below w.heap.size w w'))
    case atStart => exact ⟨(ah),(aE),(by first|rfl|(simp;done)|(rw [Int.tdiv_eq_ediv_of_nonneg (by assumption)];done)|(rw [Int.tmod_eq_emod_of_nonneg (by assumption)];done)|(simp only [← ak] <;> (first|rfl|simp))|(simp [*];done)),H',⟨Nat.le_refl _⟩,⟨rM ai.out⟩,⟨bM HB.out⟩⟩
    case round =>
     clear H'
     try clear p2
     try clear c3
     try clear an
     try clear p4
     try clear q4
     try clear hx4
     try clear p6
     try clear ac
     try clear p2
     try clear al
     try clear am
     obtain ⟨ae,ab,rfl,HA,aT,ai,HB⟩ := hrel
     cases gk with
    |zero => exact absurd HA.out (by simp [r03_Put.l1])
    |succ k2 =>
      have H := HA.out
      clear HA
      simp only [r03_Put.l1] at H
      by_cases c8 : ab ≥ 128
      ·rw [if_pos c8] at H
       have aG := decide_eq_true c8
       clear c8
       obtain ⟨c9,H⟩ := iS H
       have aH := aK c9
       clear c9
       obtain ⟨ar,af⟩ : ∃ y_ : List Int,y_ = (ae ++ [(wrap64 ((Int.tmod ab 128) + 128)) % 256]) := ⟨_,rfl⟩
       replace H : (r03_Put.l1 k2 ar (wrap64 (Int.tdiv ab 128))) = some r := by first|(rw [af];with_reducible exact H)|(have aj := (Option.bind_some _ _).symm.trans H;rw [af];with_reducible exact aj)|(have aj := (Option.bind_some _ _).symm.trans H;with_reducible exact aj)|with_reducible exact H|(rw [af];exact H)|exact H
       have au := aK af
       clear af
       have H' := aK H
       clear H
       go_wp2_with (first|((with_reducible refine gate_builtin (b := .append) (xs := #[.tmp 25,.tmp 30]) rfl ?_);at_builtin;refine Kd.R_append (Kd.int .u8) (w0 := w) w.heap.size rfl (.tmp 25) (.tmp 30) 31 5 (.int .u8 0) 1 rfl Tryz.underlying31 info5 rfl (by decide) (by omega) u5 ae ((wrap64 ((Int.tmod ab 128) + 128)) % 256) [.int .u8 ((wrap64 ((Int.tmod ab 128) + 128)) % 256)] (fun _ => True) (fun _ => False) rfl rfl ?aP (fun _ hk => hk.elim) ?aF ?aO ?aB ?aS ?aL ?_;(case aP => exact rfl);(case aB => exact (bM HB.out));(case aF => exact (fun _ _ => trivial));(case aO => exact (rM ai.out));(case aS => exact (below_size (bM HB.out)));(case aL => have := aH.out;omega);intro aX a0 ho hb hg hat;rw [← au.out] at ho;replace HB := aK (hb);have av := aK (ho);clear ho hb hg hat))
       go_roundg k2
       case measure => have := az.out;have := aT.out;omega
       case rel => exact ⟨(ar),(wrap64 (Int.tdiv ab 128)),(by first|rfl|(simp;done)|(simp [*];done)),H',⟨by have := az.out;have := aT.out;omega⟩,⟨rM av.out⟩,⟨bM HB.out⟩⟩
      ·rw [if_neg c8] at H
       have aG := decide_eq_false c8
       clear c8
       by_cases aA : ae.length < 140737488355328
       ·rw [if_pos aA] at H
        have aw := aK aA
        clear aA
        obtain ⟨aI,ag⟩ : ∃ y_ : List Int,y_ = (ae ++ [(ab) % 256]) := ⟨_,rfl⟩
        replace H : (some aI) = some r := by first|(rw [ag];with_reducible exact H)|(have aj := (Option.bind_some _ _).symm.trans H;rw [ag];with_reducible exact aj)|(have aj := (Option.bind_some _ _).symm.trans H;with_reducible exact aj)|with_reducible exact H|(rw [ag];exact H)|exact H
        have ax := aK ag
        clear ag
        obtain rfl := Option.some.inj H
        go_wp2_with (first|((with_reducible refine gate_builtin (b := .append) (xs := #[.tmp 34,.tmp 37]) rfl ?_);at_builtin;refine Kd.R_append (Kd.int .u8) (w0 := w) w.heap.size rfl (.tmp 34) (.tmp 37) 31 5 (.int .u8 0) 1 rfl Tryz.underlying31 info5 rfl (by decide) (by omega) u5 ae ((ab) % 256) [.int .u8 ((ab) % 256)] (fun _ => True) (fun _ => False) rfl rfl ?aP (fun _ hk => hk.elim) ?aF ?aO ?aB ?aS ?aL ?_;(case aP => exact rfl);(case aB => exact (bM HB.out));(case aF => exact (fun _ _ => trivial));(case aO => exact (rM ai.out));(case aS => exact (below_size (bM HB.out)));(case aL => have := aw.out;omega);intro aY a2 ho hb hg hat;rw [← ax.out] at ho;replace HB := aK (hb);have ay := aK (ho);clear ho hb hg hat))
        go_ret
        exact ⟨_,by first|rfl|(simp [errW_none,errW_some] <;> rfl)|(simp only [← ak];first|rfl|(simp [errW_none,errW_some] <;> rfl))|(simp [*,errW_none,errW_some] <;> rfl),rM ay.out,bM HB.out⟩
       ·rw [if_neg aA] at H
        exact absurd H (by simp)
end Go.Proofs.YtmgliocboeifdaaGreatDoor.F
