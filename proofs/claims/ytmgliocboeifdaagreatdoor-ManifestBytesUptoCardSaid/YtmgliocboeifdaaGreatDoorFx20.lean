import Derived.Test.YtmgliocboeifdaaGreatDoorFx0
import Derived.Test.YtmgliocboeifdaaGreatDoorFx10
import Derived.Test.YtmgliocboeifdaaGreatDoorFx11
import Derived.Test.YtmgliocboeifdaaGreatDoorFx13
import Derived.Test.YtmgliocboeifdaaGreatDoorFx15
import Derived.Test.YtmgliocboeifdaaGreatDoorFx17
import Derived.Test.YtmgliocboeifdaaGreatDoorFx19
namespace Go.Proofs.YtmgliocboeifdaaGreatDoor.F
open Go.RowKit Go.Proofs.YtmgliocboeifdaaGreatDoorW.PrintWords Go.Proofs.YtmgliocboeifdaaGreatDoorW.PrintLast Go.Proofs.YtmgliocboeifdaaGreatDoorW.PrintMore
attribute [local go_sem] max2_int min2_int max_two min_two max_three min_three max_four min_four
set_option linter.unusedVariables false
set_option linter.unusedSimpArgs false

/-! ### l33_ManifestBytes: function 4 -/
def l33_ManifestBytes.j0 : Nat → List Int → Bool → Int → Int → Int → List Int → List Int → List ByteArray → Option (Bool)
|0,_,_,_,_,_,_,_,_ => none
|k + 1,x1,x26,x557000,x557001,x557002,x557003,x557004,x557005 => if x26 = true then (some true) else ((manifest_Decode.f k x1).bind fun bt558 => ((r33_Decode.f k x1).bind fun bt572 => ((manifest_Encode.f k x557000 x557001 x557002 x557003 x557004 x557005).bind fun t586 => ((r33_Encode.f k x557000 x557001 x557002 x557003 x557004 x557005).bind fun t589 => (if (strOfNums t586).toList = (strOfNums t589).toList then (if bt558.2.2.2.2.2.2 = bt572.2.2.2.2.2.2 then ((r33_Same.f k bt558.1 bt558.2.1 bt558.2.2.1 bt558.2.2.2.1 bt558.2.2.2.2.1 bt558.2.2.2.2.2.1 bt572.1 bt572.2.1 bt572.2.2.1 bt572.2.2.2.1 bt572.2.2.2.2.1 bt572.2.2.2.2.2.1).bind fun t592 => (some t592)) else (some false)) else (some false))))))
def l33_ManifestBytes.f (k : Nat) (a0_0 : Int) (a0_1 : Int) (a0_2 : Int) (l0_3 : List Int) (l0_4 : List Int) (l0_5 : List ByteArray) (l1 : List Int) : Option (Bool) := (l33_alive.f k).bind fun t557 => (if t557 = true then (if (l0_3.length : Int) > 1000 then (l33_ManifestBytes.j0 k l1 true a0_0 a0_1 a0_2 l0_3 l0_4 l0_5) else (if (l0_4.length : Int) > 1000 then (l33_ManifestBytes.j0 k l1 true a0_0 a0_1 a0_2 l0_3 l0_4 l0_5) else (l33_ManifestBytes.j0 k l1 (decide ((l0_5.length : Int) > 1000)) a0_0 a0_1 a0_2 l0_3 l0_4 l0_5))) else (some false))
theorem l33_ManifestBytes.mono_l : ∀ k, (∀ y0 y1 y2 y3 y4 y5 y6 y7, LeO (l33_ManifestBytes.j0 k y0 y1 y2 y3 y4 y5 y6 y7) (l33_ManifestBytes.j0 (k + 1) y0 y1 y2 y3 y4 y5 y6 y7))
|0 => fun _ _ _ _ _ _ _ _ r h => by simp [l33_ManifestBytes.j0] at h
|k + 1 => by
  have ih0 := l33_ManifestBytes.mono_l k
  ·intro y0 y1 y2 y3 y4 y5 y6 y7
   unfold l33_ManifestBytes.j0
   repeat' (with_reducible first|exact r33_Decode.mono _ _|exact r33_Encode.mono _ _ _ _ _ _ _|exact r33_Same.mono _ _ _ _ _ _ _ _ _ _ _ _ _|exact manifest_Decode.mono _ _|exact manifest_Encode.mono _ _ _ _ _ _ _|exact LeO.refl _|exact LeO.none _|refine LeO.ite ?_ ?_|refine LeO.bind ?_ (fun _ => ?_))
theorem l33_ManifestBytes.mono : ∀ a0 a1 a2 a3 a4 a5 a6 k, LeO (l33_ManifestBytes.f k a0 a1 a2 a3 a4 a5 a6) (l33_ManifestBytes.f (k + 1) a0 a1 a2 a3 a4 a5 a6) := by
 intro a0 a1 a2 a3 a4 a5 a6 k
 have ih0 := l33_ManifestBytes.mono_l k
 unfold l33_ManifestBytes.f
 repeat' first
  |(with_reducible exact ih0 _ _ _ _ _ _ _ _)
  |(with_reducible exact l33_alive.mono _)
  |(with_reducible exact r33_Decode.mono _ _)
  |(with_reducible exact r33_Encode.mono _ _ _ _ _ _ _)
  |(with_reducible exact r33_Same.mono _ _ _ _ _ _ _ _ _ _ _ _ _)
  |(with_reducible exact manifest_Decode.mono _ _)
  |(with_reducible exact manifest_Encode.mono _ _ _ _ _ _ _)
  |(with_reducible exact LeO.refl _)
  |(with_reducible exact LeO.none _)
  |(with_reducible refine LeO.ite ?_ ?_)
  |(with_reducible refine LeO.bind ?_ (fun _ => ?_))
  |exact ih0 _ _ _ _ _ _ _ _
  |exact l33_alive.mono _
  |exact r33_Decode.mono _ _
  |exact r33_Encode.mono _ _ _ _ _ _ _
  |exact r33_Same.mono _ _ _ _ _ _ _ _ _ _ _ _ _
  |exact manifest_Decode.mono _ _
  |exact manifest_Encode.mono _ _ _ _ _ _ _
  |exact LeO.none _
  |refine LeO.ite ?_ ?_
  |refine LeO.bind ?_ (fun _ => ?_)
def l33_ManifestBytes.T7 : Bool × List (List Nat × List Nat) := (true, [([], []), ([0], [0]), ([1], [1]), ([], []), ([3, 1], [3]), ([4], [4]), ([2, 5], [2, 5]), ([6, 4], [6]), ([7], [7]), ([7], [7]), ([8, 9, 7], [7, 8, 9]), ([7, 10], [7, 10]), ([11, 7], [11]), ([12], [12]), ([12], [12]), ([13, 14, 12, 12], [12, 13, 14]), ([12, 15], [12, 15]), ([16, 15, 0, 1, 2, 3, 4, 5, 6, 7, 8, 9, 10, 11, 12, 13, 14, 15, 16], [16])])
def l33_ManifestBytes.B7 : List Nat := [0, 1, 3, 0, 11, 27, 63, 127, 255, 255, 1023, 2047, 4095, 8191, 8191, 32767, 65535, 131071]
theorem l33_ManifestBytes.tab7 : rtab .any (opsOf Tryz.f4 7) = l33_ManifestBytes.T7 := by kernel_rfl
theorem l33_ManifestBytes.bits7 : waitsOk l33_ManifestBytes.T7.2 l33_ManifestBytes.B7 = true := by kernel_rfl
set_option maxHeartbeats 4000000 in
set_option maxRecDepth 100000 in
theorem l33_ManifestBytes.calls (k : Nat) (aG : Int) (aH : Int) (aI : Int) (a1 : Option Addr) (a2 : Nat) (aB : List Int) (a3 : Option Addr) (a4 : Nat) (aC : List Int) (a5 : Option Addr) (a6 : Nat) (aD : List ByteArray) (A1 : Option Addr) (c1 : Nat) (l1 : List Int) (r : Bool) (w : World) (ck : Kd.C (Kd.int .i64) w a1 aB.length aB) (cl : aB.length ≤ a2) (cm : Kd.C (Kd.int .i64) w a3 aC.length aC) (cn : aC.length ≤ a4) (co : Kd.C Kd.string w a5 aD.length aD) (cp : aD.length ≤ a6) (dP : Kd.C (Kd.int .u8) w A1 l1.length l1) (dQ : l1.length ≤ c1) (h : l33_ManifestBytes.f k aG aH aI aB aC aD l1 = some r) :
  Calls Tryz.prog 4 #[.agg #[.int .i64 aG,.int .i64 aH,.int .i64 aI,.slice a1 aB.length a2,.slice a3 aC.length a4,.slice a5 aD.length a6],.slice A1 l1.length c1] w fun e w' => e = .returned (.bool r) ∧ Below w.heap.size w w' := by
 have d6 := Tryz.underlying30
 have bJ := aK ck
 have bK := aK cl
 clear ck cl
 have bL := aK cm
 have bN := aK cn
 clear cm cn
 have bO := aK co
 have bP := aK cp
 clear co cp
 have dg := aK dP
 have dh := aK dQ
 clear dP dQ
 have HB := aK (Below.refl w.heap.size w)
 unfold l33_ManifestBytes.f at h
 have H := h
 clear h
 replace H := Option.bind_eq_some_iff.mp H
 obtain ⟨dj,dR,H⟩ := H
 have A3 := aK dR
 clear dR
 by_cases c4 : dj = true
 ·subst c4
  rw [if_pos rfl] at H
  have dk := aK H
  clear H
  go_enter Tryz.func4,Tryz.ntmps4
  go_upto_region 3 with (first|((with_reducible refine gate_dst (N := 2) rfl ?_);(try (refine gate_guard (by rfl) ?_;dsimp only));refine box_event ?hg (N := 2) ?hd (cs := #[.int .i64 aG,.int .i64 aH,.int .i64 aI,.slice a1 aB.length a2,.slice a3 aC.length a4,.slice a5 aD.length a6]) (t := 30) ?hr ?_;(case hd => rfl);(case hg => rfl);(case hr => first|(go_simp;done)|(go_simp;rfl));intro ai hg w6 hbox hb;have aa := aK (hbox);have b5 := aK ((by rw [hg];exact (below_size (bM HB.out)) : w.heap.size ≤ ai));have cI := Ge.mk b5.out;have b6 := aK ((by rw [hg];exact (below_size (bM HB.out)) : w.heap.size ≤ ai));have cJ := Ge.mk b6.out;replace HB := aK (below_step (bM HB.out) hb);clear hb hbox hg)|((with_reducible refine gate_callee (f := 6) rfl ?_);refine gL 9 Tryz.func6 #[] ?_;(with_reducible refine (l33_alive.calls k  true _ A3.out).mono ?_);rintro e w7 ⟨rfl,hb⟩;refine ⟨_,rfl,?_⟩;replace aa := aK (blk_below (kM aa.out) hb);replace HB := aK (below_step (bG HB.out) hb);(try clear hb);(try clear hk)))
  (try simp only [Act.put,z1_,z2_,z3_])
  go_cut [26] (fun d7 wc => ∃ (kq : Nat) (b3 : Bool),d7 = .bool b3 ∧ Aside0 (l33_ManifestBytes.j0 kq l1 b3 aG aH aI aB aC aD = some r) ∧ Aside0 (kq ≤ k) ∧ Aside0 (wc.heap[ai]? = some (.cells #[.int .i64 aG,.int .i64 aH,.int .i64 aI,(.slice a1 aB.length a2),(.slice a3 aC.length a4),(.slice a5 aD.length a6)] 30 (0,0))) ∧ Aside0 (Below w.heap.size w wc))
  case first =>
   have H := dk.out
   clear dk
   by_cases c8 : (aB.length : Int) > 1000
   ·rw [if_pos c8] at H
    have b7 := decide_eq_true c8
    have cB : decide (1000 < aB.length) = true := decide_eq_true (by omega)
    clear c8
    (first|rw [b7]|(simp only [i64_w,i32_w];rw [b7])|rw [cB]|skip)
    have H' := aK H
    clear H
    obtain ⟨_,_,_,_,_,_,_,_,_,_,_,_⟩ := bk6_ aa.out
    go_wp2
    go_meet
    case rel => exact ⟨_,(true),(by first|rfl|(simp;done)|(simp [*];done)),H',⟨by first|omega|exact Nat.le_refl _⟩,⟨kM aa.out⟩,⟨bG HB.out⟩⟩
   ·rw [if_neg c8] at H
    have b7 := decide_eq_false c8
    have cB : decide (1000 < aB.length) = false := decide_eq_false (by omega)
    clear c8
    (first|rw [b7]|(simp only [i64_w,i32_w];rw [b7])|rw [cB]|skip)
    by_cases c10 : (aC.length : Int) > 1000
    ·rw [if_pos c10] at H
     have cK := decide_eq_true c10
     have cL : decide (1000 < aC.length) = true := decide_eq_true (by omega)
     clear c10
     have H' := aK H
     clear H
     obtain ⟨_,_,_,_,_,_,_,_,_,_,_,_⟩ := bk6_ aa.out
     go_wp2
     go_meet
     case rel => exact ⟨_,(true),(by first|rfl|(simp;done)|(simp [*];done)),H',⟨by first|omega|exact Nat.le_refl _⟩,⟨kM aa.out⟩,⟨bG HB.out⟩⟩
    ·rw [if_neg c10] at H
     have cK := decide_eq_false c10
     have cL : decide (1000 < aC.length) = false := decide_eq_false (by omega)
     clear c10
     have H' := aK H
     clear H
     obtain ⟨_,_,_,_,_,_,_,_,_,_,_,_⟩ := bk6_ aa.out
     go_wp2
     go_meet
     case rel => exact ⟨_,(decide ((aD.length : Int) > 1000)),(by first|rfl|(simp;done)|(simp [*];done)),H',⟨by first|omega|exact Nat.le_refl _⟩,⟨kM aa.out⟩,⟨bG HB.out⟩⟩
  case rest =>
   clear dk
   try clear p2
   try clear c4
   obtain ⟨kq,b3,rfl,HA,d9,aa,HB⟩ := hcut
   cases kq with
  |zero => exact absurd HA.out (by simp [l33_ManifestBytes.j0])
  |succ kj4 =>
    have H := HA.out
    clear HA
    simp only [l33_ManifestBytes.j0] at H
    by_cases di : b3 = true
    ·subst di
     rw [if_pos rfl] at H
     obtain rfl := Option.some.inj H
     go_wp2
     go_ret
     exact ⟨by first|rfl|(simp [errW_none,errW_some] <;> rfl)|(simp [*,errW_none,errW_some] <;> rfl),bG HB.out⟩
    ·replace di := Bool.eq_false_iff.mpr di
     subst di
     rw [if_neg (show ¬ (false = true) by decide)] at H
     replace H := Option.bind_eq_some_iff.mp H
     obtain ⟨⟨aM,aO,aP,ao,ap,av,b8⟩,cN,H⟩ := H
     replace H : ((r33_Decode.f kj4 l1).bind fun bU => ((manifest_Encode.f kj4 aG aH aI aB aC aD).bind fun bH => ((r33_Encode.f kj4 aG aH aI aB aC aD).bind fun bD => (if (strOfNums bH).toList = (strOfNums bD).toList then (if b8 = bU.2.2.2.2.2.2 then ((r33_Same.f kj4 aM aO aP ao ap av bU.1 bU.2.1 bU.2.2.1 bU.2.2.2.1 bU.2.2.2.2.1 bU.2.2.2.2.2.1).bind fun b9 => (some b9)) else (some false)) else (some false))))) = some r := H
     have dS := aK cN
     clear cN
     replace H := Option.bind_eq_some_iff.mp H
     obtain ⟨⟨au,aw,ax,am,an,ar,cj⟩,cO,H⟩ := H
     replace H : ((manifest_Encode.f kj4 aG aH aI aB aC aD).bind fun bH => ((r33_Encode.f kj4 aG aH aI aB aC aD).bind fun bD => (if (strOfNums bH).toList = (strOfNums bD).toList then (if b8 = cj then ((r33_Same.f kj4 aM aO aP ao ap av au aw ax am an ar).bind fun b9 => (some b9)) else (some false)) else (some false)))) = some r := H
     have dT := aK cO
     clear cO
     replace H := Option.bind_eq_some_iff.mp H
     obtain ⟨bH,cP,H⟩ := H
     have dl := aK cP
     clear cP
     replace H := Option.bind_eq_some_iff.mp H
     obtain ⟨bD,cQ,H⟩ := H
     have cH := aK cQ
     clear cQ
     by_cases cC : (strOfNums bH).toList = (strOfNums bD).toList
     ·rw [if_pos cC] at H
      have cR := beq_iff_eq.mpr cC
      have cS := bne_eq_false_iff_eq.mpr cC
      clear cC
      have cT := aK H;clear H
      try go_wp2_with (first|((with_reducible refine gate_callee (f := 10) rfl ?_);refine gL 29 Tryz.func10 #[.slice A1 l1.length c1] ?_;(with_reducible refine (manifest_Decode.calls kj4 _ _ l1 aM aO aP ao ap av b8 _ ?aQ ?aR dS.out).mono ?_);(case aQ => exact cM (Kd.C_below dg.out HB.out));(case aR => exact dh.out);rintro e ea ⟨dm,dn,dp,rfl,bB,b2,b4,hb⟩;refine ⟨_,rfl,?_⟩;have af := aK (Kd.R_lower bB (below_size (bG HB.out)));have ag := aK (Kd.R_lower b2 (below_size (bG HB.out)));have ah := aK (Kd.R_lower b4 (below_size (bG HB.out)));replace aa := aK (blk_below (kM aa.out) hb);replace HB := aK (below_step (bG HB.out) hb);(try clear hb);(try clear hk);(try clear bB);(try clear b2);(try clear b4))|((with_reducible refine gate_dst (N := 5) rfl ?_);(try (refine gate_guard (by rfl) ?_;dsimp only));refine box_event ?hg (N := 5) ?hd (cs := #[.int .i64 0,.int .i64 0,.int .i64 0,.slice none 0 0,.slice none 0 0,.slice none 0 0]) (t := 30) ?hr ?_;(case hd => rfl);(case hg => rfl);(case hr => first|(go_simp;done)|(go_simp;rfl));intro ae hg eb hbox hb;replace af := aK (Kd.R_below (rM af.out) hb);replace ag := aK (Kd.R_below (rM ag.out) hb);replace ah := aK (Kd.R_below (rM ah.out) hb);have ac := aK (hbox);have ca := aK ((by rw [hg];exact (below_size (bG HB.out)) : w.heap.size ≤ ae));have cU := Ge.mk ca.out;have cb := aK ((by rw [hg];exact (below_size (bG HB.out)) : w.heap.size ≤ ae));have cV := Ge.mk cb.out;replace HB := aK (below_step (bG HB.out) hb);have ay := aK (nbL aa.out hg);have bR := aK (nbR aa.out hg);replace aa := aK (blk_below (kM aa.out) hb);clear hb hbox hg;have dU := bR.out;have dV := ay.out;obtain ⟨_,_,_,_,_,_,_,_,_,_,_,_⟩ := bk6_ ac.out;obtain ⟨aS,aT,dq⟩ := Kd.R_slice af.out;subst dq;obtain ⟨aU,aV,dr⟩ := Kd.R_slice ag.out;subst dr;obtain ⟨be,bf,dt⟩ := Kd.R_slice ah.out;subst dt)|((with_reducible refine gate_callee (f := 11) rfl ?_);refine gL 34 Tryz.func11 #[.slice A1 l1.length c1] ?_;(with_reducible refine (r33_Decode.calls kj4 _ _ l1 au aw ax am an ar cj _ ?aQ ?aR dT.out).mono ?_);(case aQ => exact Kd.C_below dg.out (bG HB.out));(case aR => exact dh.out);rintro e ec ⟨du,dv,dw,rfl,bB,b2,b4,hb⟩;refine ⟨_,rfl,?_⟩;have aj := aK (Kd.R_lower (Kd.R_new' (Kd.R_new' bB (Kd.R_lt (by (with_reducible repeat (first|apply Kd.R_alloc|apply Kd.R_drewN|apply Kd.R_drew));exact (Kd.R_mono (Kd.R_far (p := ⟨ae,5,none⟩) (Kd.R_far (p := ⟨ae,4,none⟩) (Kd.R_far (p := ⟨ae,3,none⟩) (Kd.R_far (p := ⟨ae,2,none⟩) (Kd.R_far (p := ⟨ae,1,none⟩) (Kd.R_far (p := ⟨ae,0,none⟩) (Kd.R_types af.out ac.out (by decide)) (fun _ hk => hk.2) (.int .i64 aM)) (fun _ hk => hk.2) (.int .i64 aO)) (fun _ hk => hk.2) (.int .i64 aP)) (fun _ hk => hk.2) (.slice aS ao.length aT)) (fun _ hk => hk.2) (.slice aU ap.length aV)) (fun _ hk => hk.2) (.slice be av.length bf)) (fun _ h_ => h_.1))))) (Kd.R_lt (by (with_reducible repeat (first|apply Kd.R_alloc|apply Kd.R_drewN|apply Kd.R_drew));exact (Kd.R_mono (Kd.R_far (p := ⟨ae,5,none⟩) (Kd.R_far (p := ⟨ae,4,none⟩) (Kd.R_far (p := ⟨ae,3,none⟩) (Kd.R_far (p := ⟨ae,2,none⟩) (Kd.R_far (p := ⟨ae,1,none⟩) (Kd.R_far (p := ⟨ae,0,none⟩) (Kd.R_types ag.out ac.out (by decide)) (fun _ hk => hk.2) (.int .i64 aM)) (fun _ hk => hk.2) (.int .i64 aO)) (fun _ hk => hk.2) (.int .i64 aP)) (fun _ hk => hk.2) (.slice aS ao.length aT)) (fun _ hk => hk.2) (.slice aU ap.length aV)) (fun _ hk => hk.2) (.slice be av.length bf)) (fun _ h_ => h_.1))))) (below_size (bG HB.out)));have ak := aK (Kd.R_lower (Kd.R_new' (Kd.R_new' b2 (Kd.R_lt (by (with_reducible repeat (first|apply Kd.R_alloc|apply Kd.R_drewN|apply Kd.R_drew));exact (Kd.R_mono (Kd.R_far (p := ⟨ae,5,none⟩) (Kd.R_far (p := ⟨ae,4,none⟩) (Kd.R_far (p := ⟨ae,3,none⟩) (Kd.R_far (p := ⟨ae,2,none⟩) (Kd.R_far (p := ⟨ae,1,none⟩) (Kd.R_far (p := ⟨ae,0,none⟩) (Kd.R_types af.out ac.out (by decide)) (fun _ hk => hk.2) (.int .i64 aM)) (fun _ hk => hk.2) (.int .i64 aO)) (fun _ hk => hk.2) (.int .i64 aP)) (fun _ hk => hk.2) (.slice aS ao.length aT)) (fun _ hk => hk.2) (.slice aU ap.length aV)) (fun _ hk => hk.2) (.slice be av.length bf)) (fun _ h_ => h_.1))))) (Kd.R_lt (by (with_reducible repeat (first|apply Kd.R_alloc|apply Kd.R_drewN|apply Kd.R_drew));exact (Kd.R_mono (Kd.R_far (p := ⟨ae,5,none⟩) (Kd.R_far (p := ⟨ae,4,none⟩) (Kd.R_far (p := ⟨ae,3,none⟩) (Kd.R_far (p := ⟨ae,2,none⟩) (Kd.R_far (p := ⟨ae,1,none⟩) (Kd.R_far (p := ⟨ae,0,none⟩) (Kd.R_types ag.out ac.out (by decide)) (fun _ hk => hk.2) (.int .i64 aM)) (fun _ hk => hk.2) (.int .i64 aO)) (fun _ hk => hk.2) (.int .i64 aP)) (fun _ hk => hk.2) (.slice aS ao.length aT)) (fun _ hk => hk.2) (.slice aU ap.length aV)) (fun _ hk => hk.2) (.slice be av.length bf)) (fun _ h_ => h_.1))))) (below_size (bG HB.out)));replace af := aK (Kd.R_mono (Kd.R_told (Kd.R_told (Kd.R_old (by (with_reducible repeat (first|apply Kd.R_alloc|apply Kd.R_drewN|apply Kd.R_drew));exact (Kd.R_mono (Kd.R_far (p := ⟨ae,5,none⟩) (Kd.R_far (p := ⟨ae,4,none⟩) (Kd.R_far (p := ⟨ae,3,none⟩) (Kd.R_far (p := ⟨ae,2,none⟩) (Kd.R_far (p := ⟨ae,1,none⟩) (Kd.R_far (p := ⟨ae,0,none⟩) (Kd.R_types af.out ac.out (by decide)) (fun _ hk => hk.2) (.int .i64 aM)) (fun _ hk => hk.2) (.int .i64 aO)) (fun _ hk => hk.2) (.int .i64 aP)) (fun _ hk => hk.2) (.slice aS ao.length aT)) (fun _ hk => hk.2) (.slice aU ap.length aV)) (fun _ hk => hk.2) (.slice be av.length bf)) (fun _ h_ => h_.1))) hb) (Kd.R_base bB)) (Kd.R_base b2)) (fun _ h_ => h_.1));replace ag := aK (Kd.R_mono (Kd.R_told (Kd.R_told (Kd.R_old (by (with_reducible repeat (first|apply Kd.R_alloc|apply Kd.R_drewN|apply Kd.R_drew));exact (Kd.R_mono (Kd.R_far (p := ⟨ae,5,none⟩) (Kd.R_far (p := ⟨ae,4,none⟩) (Kd.R_far (p := ⟨ae,3,none⟩) (Kd.R_far (p := ⟨ae,2,none⟩) (Kd.R_far (p := ⟨ae,1,none⟩) (Kd.R_far (p := ⟨ae,0,none⟩) (Kd.R_types ag.out ac.out (by decide)) (fun _ hk => hk.2) (.int .i64 aM)) (fun _ hk => hk.2) (.int .i64 aO)) (fun _ hk => hk.2) (.int .i64 aP)) (fun _ hk => hk.2) (.slice aS ao.length aT)) (fun _ hk => hk.2) (.slice aU ap.length aV)) (fun _ hk => hk.2) (.slice be av.length bf)) (fun _ h_ => h_.1))) hb) (Kd.R_base bB)) (Kd.R_base b2)) (fun _ h_ => h_.1));have al := aK (Kd.R_lower (Kd.R_new' b4 (Kd.R_lt (by (with_reducible repeat (first|apply Kd.R_alloc|apply Kd.R_drewN|apply Kd.R_drew));exact (Kd.R_mono (Kd.R_far (p := ⟨ae,5,none⟩) (Kd.R_far (p := ⟨ae,4,none⟩) (Kd.R_far (p := ⟨ae,3,none⟩) (Kd.R_far (p := ⟨ae,2,none⟩) (Kd.R_far (p := ⟨ae,1,none⟩) (Kd.R_far (p := ⟨ae,0,none⟩) (Kd.R_types ah.out ac.out (by decide)) (fun _ hk => hk.2) (.int .i64 aM)) (fun _ hk => hk.2) (.int .i64 aO)) (fun _ hk => hk.2) (.int .i64 aP)) (fun _ hk => hk.2) (.slice aS ao.length aT)) (fun _ hk => hk.2) (.slice aU ap.length aV)) (fun _ hk => hk.2) (.slice be av.length bf)) (fun _ h_ => h_.1))))) (below_size (bG HB.out)));replace ah := aK (Kd.R_elder' (by (with_reducible repeat (first|apply Kd.R_alloc|apply Kd.R_drewN|apply Kd.R_drew));exact (Kd.R_mono (Kd.R_far (p := ⟨ae,5,none⟩) (Kd.R_far (p := ⟨ae,4,none⟩) (Kd.R_far (p := ⟨ae,3,none⟩) (Kd.R_far (p := ⟨ae,2,none⟩) (Kd.R_far (p := ⟨ae,1,none⟩) (Kd.R_far (p := ⟨ae,0,none⟩) (Kd.R_types ah.out ac.out (by decide)) (fun _ hk => hk.2) (.int .i64 aM)) (fun _ hk => hk.2) (.int .i64 aO)) (fun _ hk => hk.2) (.int .i64 aP)) (fun _ hk => hk.2) (.slice aS ao.length aT)) (fun _ hk => hk.2) (.slice aU ap.length aV)) (fun _ hk => hk.2) (.slice be av.length bf)) (fun _ h_ => h_.1))) (Kd.R_base b4) hb);replace aa := aK (blk_below (g := ai) (o := .cells #[.int .i64 aG,.int .i64 aH,.int .i64 aI,.slice a1 aB.length a2,.slice a3 aC.length a4,.slice a5 aD.length a6] 30 (0,0)) (by refine kO ?_;refine blk_far ?_ ay.out _;refine kO ?_;refine blk_far ?_ ay.out _;refine kO ?_;refine blk_far ?_ ay.out _;refine kO ?_;refine blk_far ?_ ay.out _;refine kO ?_;refine blk_far ?_ ay.out _;refine kO ?_;refine blk_far ?_ ay.out _;refine kO ?_;exact aa.out) hb);replace ac := aK (blk_below (g := ae) (o := .cells #[.int .i64 aM,.int .i64 aO,.int .i64 aP,.slice aS ao.length aT,.slice aU ap.length aV,.slice be av.length bf] 30 (0,0)) (by refine kO ?_;refine blk_put (cs := #[.int .i64 aM,.int .i64 aO,.int .i64 aP,.slice aS ao.length aT,.slice aU ap.length aV,.slice none 0 0]) ?_ 5 _ rfl;refine kO ?_;refine blk_put (cs := #[.int .i64 aM,.int .i64 aO,.int .i64 aP,.slice aS ao.length aT,.slice none 0 0,.slice none 0 0]) ?_ 4 _ rfl;refine kO ?_;refine blk_put (cs := #[.int .i64 aM,.int .i64 aO,.int .i64 aP,.slice none 0 0,.slice none 0 0,.slice none 0 0]) ?_ 3 _ rfl;refine kO ?_;refine blk_put (cs := #[.int .i64 aM,.int .i64 aO,.int .i64 0,.slice none 0 0,.slice none 0 0,.slice none 0 0]) ?_ 2 _ rfl;refine kO ?_;refine blk_put (cs := #[.int .i64 aM,.int .i64 0,.int .i64 0,.slice none 0 0,.slice none 0 0,.slice none 0 0]) ?_ 1 _ rfl;refine kO ?_;refine blk_put (cs := #[.int .i64 0,.int .i64 0,.int .i64 0,.slice none 0 0,.slice none 0 0,.slice none 0 0]) ?_ 0 _ rfl;refine kO ?_;exact ac.out) hb);replace HB := aK (below_step (bG HB.out) hb);(try clear hb);(try clear hk);(try clear bB);(try clear b2);(try clear b4))|((with_reducible refine gate_dst (N := 7) rfl ?_);(try (refine gate_guard (by rfl) ?_;dsimp only));refine box_event ?hg (N := 7) ?hd (cs := #[.int .i64 0,.int .i64 0,.int .i64 0,.slice none 0 0,.slice none 0 0,.slice none 0 0]) (t := 30) ?hr ?_;(case hd => rfl);(case hg => rfl);(case hr => first|(go_simp;done)|(go_simp;rfl));intro ab hg cc hbox hb;replace af := aK (Kd.R_below (rM af.out) hb);replace ag := aK (Kd.R_below (rM ag.out) hb);replace ah := aK (Kd.R_below (rM ah.out) hb);replace aj := aK (Kd.R_below (rM aj.out) hb);replace ak := aK (Kd.R_below (rM ak.out) hb);replace al := aK (Kd.R_below (rM al.out) hb);have ad := aK (hbox);have cd := aK ((by rw [hg];exact (below_size (bG HB.out)) : w.heap.size ≤ ab));have cW := Ge.mk cd.out;have ce := aK ((by rw [hg];exact (below_size (bG HB.out)) : w.heap.size ≤ ab));have cX := Ge.mk ce.out;replace HB := aK (below_step (bG HB.out) hb);have az := aK (nbL aa.out hg);have bS := aK (nbR aa.out hg);replace aa := aK (blk_below (kM aa.out) hb);have aA := aK (nbL ac.out hg);have bT := aK (nbR ac.out hg);replace ac := aK (blk_below (kM ac.out) hb);clear hb hbox hg;have dW := bS.out;have dX := az.out;have dY := bT.out;have dZ := aA.out;obtain ⟨_,_,_,_,_,_,_,_,_,_,_,_⟩ := bk6_ ad.out;obtain ⟨aE,aF,dx⟩ := Kd.R_slice aj.out;subst dx;obtain ⟨aJ,aL,dy⟩ := Kd.R_slice ak.out;subst dy;obtain ⟨aX,aY,dz⟩ := Kd.R_slice al.out;subst dz))
      have bk : Aside0 (Kd.R (Kd.int .i64) 3 ((((((cc.setCell ⟨ab,0,none⟩ (.int .i64 au)).setCell ⟨ab,1,none⟩ (.int .i64 aw)).setCell ⟨ab,2,none⟩ (.int .i64 ax)).setCell ⟨ab,3,none⟩ (.slice aE am.length aF)).setCell ⟨ab,4,none⟩ (.slice aJ an.length aL)).setCell ⟨ab,5,none⟩ (.slice aX ar.length aY)) w.heap.size (fun k_ => some k_ ≠ (.slice aU ap.length aV : Value).ownBlock ∧ some k_ ≠ (.slice aE am.length aF : Value).ownBlock ∧ some k_ ≠ (.slice aJ an.length aL : Value).ownBlock) (.slice aS ao.length aT) ao) := ⟨by (with_reducible repeat (first|apply Kd.R_alloc|apply Kd.R_drewN|apply Kd.R_drew));exact Kd.R_mono (Kd.R_far (p := ⟨ab,5,none⟩) (Kd.R_far (p := ⟨ab,4,none⟩) (Kd.R_far (p := ⟨ab,3,none⟩) (Kd.R_far (p := ⟨ab,2,none⟩) (Kd.R_far (p := ⟨ab,1,none⟩) (Kd.R_far (p := ⟨ab,0,none⟩) (Kd.R_types af.out ad.out (by decide)) (fun _ hk => hk.2) (.int .i64 au)) (fun _ hk => hk.2) (.int .i64 aw)) (fun _ hk => hk.2) (.int .i64 ax)) (fun _ hk => hk.2) (.slice aE am.length aF)) (fun _ hk => hk.2) (.slice aJ an.length aL)) (fun _ hk => hk.2) (.slice aX ar.length aY)) (fun _ hk => ⟨hk.1.1.1,⟨hk.1.1.2,hk.1.2⟩⟩)⟩
      have bm : Aside0 (Kd.R (Kd.int .i64) 3 ((((((cc.setCell ⟨ab,0,none⟩ (.int .i64 au)).setCell ⟨ab,1,none⟩ (.int .i64 aw)).setCell ⟨ab,2,none⟩ (.int .i64 ax)).setCell ⟨ab,3,none⟩ (.slice aE am.length aF)).setCell ⟨ab,4,none⟩ (.slice aJ an.length aL)).setCell ⟨ab,5,none⟩ (.slice aX ar.length aY)) w.heap.size (fun k_ => some k_ ≠ (.slice aS ao.length aT : Value).ownBlock ∧ some k_ ≠ (.slice aE am.length aF : Value).ownBlock ∧ some k_ ≠ (.slice aJ an.length aL : Value).ownBlock) (.slice aU ap.length aV) ap) := ⟨by (with_reducible repeat (first|apply Kd.R_alloc|apply Kd.R_drewN|apply Kd.R_drew));exact Kd.R_mono (Kd.R_far (p := ⟨ab,5,none⟩) (Kd.R_far (p := ⟨ab,4,none⟩) (Kd.R_far (p := ⟨ab,3,none⟩) (Kd.R_far (p := ⟨ab,2,none⟩) (Kd.R_far (p := ⟨ab,1,none⟩) (Kd.R_far (p := ⟨ab,0,none⟩) (Kd.R_types ag.out ad.out (by decide)) (fun _ hk => hk.2) (.int .i64 au)) (fun _ hk => hk.2) (.int .i64 aw)) (fun _ hk => hk.2) (.int .i64 ax)) (fun _ hk => hk.2) (.slice aE am.length aF)) (fun _ hk => hk.2) (.slice aJ an.length aL)) (fun _ hk => hk.2) (.slice aX ar.length aY)) (fun _ hk => ⟨hk.1.1.1,⟨hk.1.1.2,hk.1.2⟩⟩)⟩
      have bn : Aside0 (Kd.R Kd.string 9 ((((((cc.setCell ⟨ab,0,none⟩ (.int .i64 au)).setCell ⟨ab,1,none⟩ (.int .i64 aw)).setCell ⟨ab,2,none⟩ (.int .i64 ax)).setCell ⟨ab,3,none⟩ (.slice aE am.length aF)).setCell ⟨ab,4,none⟩ (.slice aJ an.length aL)).setCell ⟨ab,5,none⟩ (.slice aX ar.length aY)) w.heap.size (fun k_ => some k_ ≠ (.slice aX ar.length aY : Value).ownBlock) (.slice be av.length bf) av) := ⟨by (with_reducible repeat (first|apply Kd.R_alloc|apply Kd.R_drewN|apply Kd.R_drew));exact Kd.R_mono (Kd.R_far (p := ⟨ab,5,none⟩) (Kd.R_far (p := ⟨ab,4,none⟩) (Kd.R_far (p := ⟨ab,3,none⟩) (Kd.R_far (p := ⟨ab,2,none⟩) (Kd.R_far (p := ⟨ab,1,none⟩) (Kd.R_far (p := ⟨ab,0,none⟩) (Kd.R_types ah.out ad.out (by decide)) (fun _ hk => hk.2) (.int .i64 au)) (fun _ hk => hk.2) (.int .i64 aw)) (fun _ hk => hk.2) (.int .i64 ax)) (fun _ hk => hk.2) (.slice aE am.length aF)) (fun _ hk => hk.2) (.slice aJ an.length aL)) (fun _ hk => hk.2) (.slice aX ar.length aY)) (fun _ hk => hk.1.2)⟩
      have bo : Aside0 (Kd.R (Kd.int .i64) 3 ((((((cc.setCell ⟨ab,0,none⟩ (.int .i64 au)).setCell ⟨ab,1,none⟩ (.int .i64 aw)).setCell ⟨ab,2,none⟩ (.int .i64 ax)).setCell ⟨ab,3,none⟩ (.slice aE am.length aF)).setCell ⟨ab,4,none⟩ (.slice aJ an.length aL)).setCell ⟨ab,5,none⟩ (.slice aX ar.length aY)) w.heap.size (fun k_ => some k_ ≠ (.slice aS ao.length aT : Value).ownBlock ∧ some k_ ≠ (.slice aU ap.length aV : Value).ownBlock ∧ some k_ ≠ (.slice aJ an.length aL : Value).ownBlock) (.slice aE am.length aF) am) := ⟨by (with_reducible repeat (first|apply Kd.R_alloc|apply Kd.R_drewN|apply Kd.R_drew));exact Kd.R_mono (Kd.R_far (p := ⟨ab,5,none⟩) (Kd.R_far (p := ⟨ab,4,none⟩) (Kd.R_far (p := ⟨ab,3,none⟩) (Kd.R_far (p := ⟨ab,2,none⟩) (Kd.R_far (p := ⟨ab,1,none⟩) (Kd.R_far (p := ⟨ab,0,none⟩) (Kd.R_types aj.out ad.out (by decide)) (fun _ hk => hk.2) (.int .i64 au)) (fun _ hk => hk.2) (.int .i64 aw)) (fun _ hk => hk.2) (.int .i64 ax)) (fun _ hk => hk.2) (.slice aE am.length aF)) (fun _ hk => hk.2) (.slice aJ an.length aL)) (fun _ hk => hk.2) (.slice aX ar.length aY)) (fun _ hk => ⟨hk.1.1.2,⟨hk.1.2,hk.1.1.1⟩⟩)⟩
      have bp : Aside0 (Kd.R (Kd.int .i64) 3 ((((((cc.setCell ⟨ab,0,none⟩ (.int .i64 au)).setCell ⟨ab,1,none⟩ (.int .i64 aw)).setCell ⟨ab,2,none⟩ (.int .i64 ax)).setCell ⟨ab,3,none⟩ (.slice aE am.length aF)).setCell ⟨ab,4,none⟩ (.slice aJ an.length aL)).setCell ⟨ab,5,none⟩ (.slice aX ar.length aY)) w.heap.size (fun k_ => some k_ ≠ (.slice aS ao.length aT : Value).ownBlock ∧ some k_ ≠ (.slice aU ap.length aV : Value).ownBlock ∧ some k_ ≠ (.slice aE am.length aF : Value).ownBlock) (.slice aJ an.length aL) an) := ⟨by (with_reducible repeat (first|apply Kd.R_alloc|apply Kd.R_drewN|apply Kd.R_drew));exact Kd.R_mono (Kd.R_far (p := ⟨ab,5,none⟩) (Kd.R_far (p := ⟨ab,4,none⟩) (Kd.R_far (p := ⟨ab,3,none⟩) (Kd.R_far (p := ⟨ab,2,none⟩) (Kd.R_far (p := ⟨ab,1,none⟩) (Kd.R_far (p := ⟨ab,0,none⟩) (Kd.R_types ak.out ad.out (by decide)) (fun _ hk => hk.2) (.int .i64 au)) (fun _ hk => hk.2) (.int .i64 aw)) (fun _ hk => hk.2) (.int .i64 ax)) (fun _ hk => hk.2) (.slice aE am.length aF)) (fun _ hk => hk.2) (.slice aJ an.length aL)) (fun _ hk => hk.2) (.slice aX ar.length aY)) (fun _ hk => ⟨hk.1.1.2,⟨hk.1.2,hk.1.1.1⟩⟩)⟩
      have bq : Aside0 (Kd.R Kd.string 9 ((((((cc.setCell ⟨ab,0,none⟩ (.int .i64 au)).setCell ⟨ab,1,none⟩ (.int .i64 aw)).setCell ⟨ab,2,none⟩ (.int .i64 ax)).setCell ⟨ab,3,none⟩ (.slice aE am.length aF)).setCell ⟨ab,4,none⟩ (.slice aJ an.length aL)).setCell ⟨ab,5,none⟩ (.slice aX ar.length aY)) w.heap.size (fun k_ => some k_ ≠ (.slice be av.length bf : Value).ownBlock) (.slice aX ar.length aY) ar) := ⟨by (with_reducible repeat (first|apply Kd.R_alloc|apply Kd.R_drewN|apply Kd.R_drew));exact Kd.R_mono (Kd.R_far (p := ⟨ab,5,none⟩) (Kd.R_far (p := ⟨ab,4,none⟩) (Kd.R_far (p := ⟨ab,3,none⟩) (Kd.R_far (p := ⟨ab,2,none⟩) (Kd.R_far (p := ⟨ab,1,none⟩) (Kd.R_far (p := ⟨ab,0,none⟩) (Kd.R_types al.out ad.out (by decide)) (fun _ hk => hk.2) (.int .i64 au)) (fun _ hk => hk.2) (.int .i64 aw)) (fun _ hk => hk.2) (.int .i64 ax)) (fun _ hk => hk.2) (.slice aE am.length aF)) (fun _ hk => hk.2) (.slice aJ an.length aL)) (fun _ hk => hk.2) (.slice aX ar.length aY)) (fun _ hk => hk.1.2)⟩
      have br : Aside0 (((((((cc.setCell ⟨ab,0,none⟩ (.int .i64 au)).setCell ⟨ab,1,none⟩ (.int .i64 aw)).setCell ⟨ab,2,none⟩ (.int .i64 ax)).setCell ⟨ab,3,none⟩ (.slice aE am.length aF)).setCell ⟨ab,4,none⟩ (.slice aJ an.length aL)).setCell ⟨ab,5,none⟩ (.slice aX ar.length aY)).heap[ai]? = some (.cells #[.int .i64 aG,.int .i64 aH,.int .i64 aI,.slice a1 aB.length a2,.slice a3 aC.length a4,.slice a5 aD.length a6] 30 (0,0))) := ⟨by refine kO ?_;refine blk_far ?_ az.out _;refine kO ?_;refine blk_far ?_ az.out _;refine kO ?_;refine blk_far ?_ az.out _;refine kO ?_;refine blk_far ?_ az.out _;refine kO ?_;refine blk_far ?_ az.out _;refine kO ?_;refine blk_far ?_ az.out _;refine kO ?_;exact aa.out⟩
      have bs : Aside0 (((((((cc.setCell ⟨ab,0,none⟩ (.int .i64 au)).setCell ⟨ab,1,none⟩ (.int .i64 aw)).setCell ⟨ab,2,none⟩ (.int .i64 ax)).setCell ⟨ab,3,none⟩ (.slice aE am.length aF)).setCell ⟨ab,4,none⟩ (.slice aJ an.length aL)).setCell ⟨ab,5,none⟩ (.slice aX ar.length aY)).heap[ae]? = some (.cells #[.int .i64 aM,.int .i64 aO,.int .i64 aP,.slice aS ao.length aT,.slice aU ap.length aV,.slice be av.length bf] 30 (0,0))) := ⟨by refine kO ?_;refine blk_far ?_ aA.out _;refine kO ?_;refine blk_far ?_ aA.out _;refine kO ?_;refine blk_far ?_ aA.out _;refine kO ?_;refine blk_far ?_ aA.out _;refine kO ?_;refine blk_far ?_ aA.out _;refine kO ?_;refine blk_far ?_ aA.out _;refine kO ?_;exact ac.out⟩
      have bu : Aside0 (((((((cc.setCell ⟨ab,0,none⟩ (.int .i64 au)).setCell ⟨ab,1,none⟩ (.int .i64 aw)).setCell ⟨ab,2,none⟩ (.int .i64 ax)).setCell ⟨ab,3,none⟩ (.slice aE am.length aF)).setCell ⟨ab,4,none⟩ (.slice aJ an.length aL)).setCell ⟨ab,5,none⟩ (.slice aX ar.length aY)).heap[ab]? = some (.cells #[.int .i64 au,.int .i64 aw,.int .i64 ax,.slice aE am.length aF,.slice aJ an.length aL,.slice aX ar.length aY] 30 (0,0))) := ⟨by refine kO ?_;refine blk_put (cs := #[.int .i64 au,.int .i64 aw,.int .i64 ax,.slice aE am.length aF,.slice aJ an.length aL,.slice none 0 0]) ?_ 5 _ rfl;refine kO ?_;refine blk_put (cs := #[.int .i64 au,.int .i64 aw,.int .i64 ax,.slice aE am.length aF,.slice none 0 0,.slice none 0 0]) ?_ 4 _ rfl;refine kO ?_;refine blk_put (cs := #[.int .i64 au,.int .i64 aw,.int .i64 ax,.slice none 0 0,.slice none 0 0,.slice none 0 0]) ?_ 3 _ rfl;refine kO ?_;refine blk_put (cs := #[.int .i64 au,.int .i64 aw,.int .i64 0,.slice none 0 0,.slice none 0 0,.slice none 0 0]) ?_ 2 _ rfl;refine kO ?_;refine blk_put (cs := #[.int .i64 au,.int .i64 0,.int .i64 0,.slice none 0 0,.slice none 0 0,.slice none 0 0]) ?_ 1 _ rfl;refine kO ?_;refine blk_put (cs := #[.int .i64 0,.int .i64 0,.int .i64 0,.slice none 0 0,.slice none 0 0,.slice none 0 0]) ?_ 0 _ rfl;refine kO ?_;exact ad.out⟩
      have bv : Aside0 (Below w.heap.size w ((((((cc.setCell ⟨ab,0,none⟩ (.int .i64 au)).setCell ⟨ab,1,none⟩ (.int .i64 aw)).setCell ⟨ab,2,none⟩ (.int .i64 ax)).setCell ⟨ab,3,none⟩ (.slice aE am.length aF)).setCell ⟨ab,4,none⟩ (.slice aJ an.length aL)).setCell ⟨ab,5,none⟩ (.slice aX ar.length aY))) := ⟨bG HB.out⟩
      (try clear af)
      (try clear ag)
      (try clear ah)
      (try clear aj)
      (try clear ak)
      (try clear al)
      (try clear aa)
      (try clear ac)
      (try clear ad)
      (try clear HB)
      generalize ((((((cc.setCell ⟨ab,0,none⟩ (.int .i64 au)).setCell ⟨ab,1,none⟩ (.int .i64 aw)).setCell ⟨ab,2,none⟩ (.int .i64 ax)).setCell ⟨ab,3,none⟩ (.slice aE am.length aF)).setCell ⟨ab,4,none⟩ (.slice aJ an.length aL)).setCell ⟨ab,5,none⟩ (.slice aX ar.length aY)) = w36 at bk bm bn bo bp bq br bs bu bv ⊢
      have af := bk
      have ag := bm
      have ah := bn
      have aj := bo
      have ak := bp
      have al := bq
      have aa := br
      have ac := bs
      have ad := bu
      have HB := bv
      clear bk bm bn bo bp bq br bs bu bv
      have bk := aK (Kd.R_drew af.out)
      have bm := aK (Kd.R_drew ag.out)
      have bn := aK (Kd.R_drew ah.out)
      have bo := aK (Kd.R_drew aj.out)
      have bp := aK (Kd.R_drew ak.out)
      have bq := aK (Kd.R_drew al.out)
      have br := aK (blk_drew aa.out)
      have bs := aK (blk_drew ac.out)
      have bu := aK (blk_drew ad.out)
      have bv := aK (below_drew1 HB.out)
      clear af
      clear ag
      clear ah
      clear aj
      clear ak
      clear al
      clear aa
      clear ac
      clear ad
      clear HB
      have af := bk
      have ag := bm
      have ah := bn
      have aj := bo
      have ak := bp
      have al := bq
      have aa := br
      have ac := bs
      have ad := bu
      have HB := bv
      clear bk bm bn bo bp bq br bs bu bv
      have H := cT.out;clear cT
      by_cases cD : b8 = cj
      ·rw [if_pos cD] at H
       have cY := beq_iff_eq.mpr cD
       have cZ := bne_eq_false_iff_eq.mpr cD
       clear cD
       replace H := Option.bind_eq_some_iff.mp H
       obtain ⟨b9,c0,H⟩ := H
       have d8 := aK c0
       clear c0
       obtain rfl := Option.some.inj H
       refine start_ (n := 18) (S := fun w' => w'.cell? ⟨ai,0,none⟩ = some (.int .i64 aG) ∧ w'.cell? ⟨ai,1,none⟩ = some (.int .i64 aH) ∧ w'.cell? ⟨ai,2,none⟩ = some (.int .i64 aI) ∧ w'.cell? ⟨ai,3,none⟩ = some (.slice a1 aB.length a2) ∧ w'.cell? ⟨ai,4,none⟩ = some (.slice a3 aC.length a4) ∧ w'.cell? ⟨ai,5,none⟩ = some (.slice a5 aD.length a6) ∧ w'.cell? ⟨ae,0,none⟩ = some (.int .i64 aM) ∧ w'.cell? ⟨ae,1,none⟩ = some (.int .i64 aO) ∧ w'.cell? ⟨ae,2,none⟩ = some (.int .i64 aP) ∧ w'.cell? ⟨ae,3,none⟩ = some (.slice aS ao.length aT) ∧ w'.cell? ⟨ae,4,none⟩ = some (.slice aU ap.length aV) ∧ w'.cell? ⟨ae,5,none⟩ = some (.slice be av.length bf) ∧ w'.cell? ⟨ab,0,none⟩ = some (.int .i64 au) ∧ w'.cell? ⟨ab,1,none⟩ = some (.int .i64 aw) ∧ w'.cell? ⟨ab,2,none⟩ = some (.int .i64 ax) ∧ w'.cell? ⟨ab,3,none⟩ = some (.slice aE am.length aF) ∧ w'.cell? ⟨ab,4,none⟩ = some (.slice aJ an.length aL) ∧ w'.cell? ⟨ab,5,none⟩ = some (.slice aX ar.length aY)) (ds := []) (bA 18 0) (by kernel_rfl) rfl rfl ⟨(blk_cell aa.out 0).trans rfl,(blk_cell aa.out 1).trans rfl,(blk_cell aa.out 2).trans rfl,(blk_cell aa.out 3).trans rfl,(blk_cell aa.out 4).trans rfl,(blk_cell aa.out 5).trans rfl,(blk_cell ac.out 0).trans rfl,(blk_cell ac.out 1).trans rfl,(blk_cell ac.out 2).trans rfl,(blk_cell ac.out 3).trans rfl,(blk_cell ac.out 4).trans rfl,(blk_cell ac.out 5).trans rfl,(blk_cell ad.out 0).trans rfl,(blk_cell ad.out 1).trans rfl,(blk_cell ad.out 2).trans rfl,(blk_cell ad.out 3).trans rfl,(blk_cell ad.out 4).trans rfl,(blk_cell ad.out 5).trans rfl⟩ (fun hHeld => ?_);refine with_tabW l33_ManifestBytes.tab7 l33_ManifestBytes.bits7 (fun HT_ HW_ => ?_)
       generalize w36.drew = w37 at af ag ah aj ak al aa ac ad HB hHeld ⊢
       refine take_ (i := 0) (N := some 37) (v := ?_) (a' := ?_) (bA 18 1) rfl rfl (take_ofW HT_.out HW_.out (by kernel_rfl)) (fun _ _ _ h => h) (Or.inl ⟨by rfl,?_⟩) hHeld ?_ ?_
       rotate_left
       ·rintro w' ⟨s0,s1,s2,s3,s4,s5,s6,s7,s8,s9,dB,dC,dD,dE,dF,dG,dH,dI⟩
        go_simp
        with_reducible rfl
       rotate_left
       ·simp only [Act.put,z1_,z2_,z3_,i64_w,i32_w]
        rfl
       refine take_ (i := 3) (N := some 40) (v := ?_) (a' := ?_) (bA 18 9) rfl rfl (take_ofW HT_.out HW_.out (by kernel_rfl)) (fun _ _ _ h => h) (Or.inl ⟨by rfl,?_⟩) hHeld ?_ ?_
       rotate_left
       ·rintro w' ⟨s0,s1,s2,s3,s4,s5,s6,s7,s8,s9,dB,dC,dD,dE,dF,dG,dH,dI⟩
        go_simp
        with_reducible rfl
       rotate_left
       ·simp only [Act.put,z1_,z2_,z3_,i64_w,i32_w]
        rfl
       refine one_ (i := 1) (N := some 38) (bA 18 11) rfl rfl (one_of HT_.out (by kernel_rfl)) (by decide) (fun K hK => ?_)
       refine goes_ Tryz.func12 (by kernel_rfl) rfl #[.agg #[.int .i64 aG,.int .i64 aH,.int .i64 aI,.slice a1 aB.length a2,.slice a3 aC.length a4,.slice a5 aD.length a6]] (by rfl) rfl rfl (by (try simp only [z4_,z5_,z6_]);first|done|rfl|(simp only [z7_,z8_];rfl)) ?_
       with_reducible refine (manifest_Encode.calls kj4 aG aH aI _ _ aB _ _ aC _ _ aD bH _ ?aQ ?aR ?a9 ?ba ?bb ?bc dl.out).mono ?_
       (case aQ => exact cM (Kd.C_below bJ.out HB.out))
       (case aR => exact bK.out)
       (case a9 => exact cM (Kd.C_below bL.out HB.out))
       (case ba => exact bN.out)
       (case bb => exact cM (Kd.C_below bO.out HB.out))
       (case bc => exact bP.out)
       rintro e ed ⟨bQ,rfl,bB,hb⟩
       refine ⟨_,rfl,?_⟩
       have bk := aK (Kd.R_below (rM af.out) hb)
       have bm := aK (Kd.R_below (rM ag.out) hb)
       have bn := aK (Kd.R_below (rM ah.out) hb)
       have bo := aK (Kd.R_below (rM aj.out) hb)
       have bp := aK (Kd.R_below (rM ak.out) hb)
       have bq := aK (Kd.R_below (rM al.out) hb)
       have br := aK (Kd.R_lower bB (below_size (bG HB.out)))
       have bs := aK (blk_below (kM aa.out) hb)
       have bu := aK (blk_below (kM ac.out) hb)
       have bv := aK (blk_below (kM ad.out) hb)
       have aW := aK (below_step (bG HB.out) hb)
       clear af
       clear ag
       clear ah
       clear aj
       clear ak
       clear al
       clear aa
       clear ac
       clear ad
       clear HB
       have af := bk
       have ag := bm
       have ah := bn
       have aj := bo
       have ak := bp
       have al := bq
       have aq := br
       have aa := bs
       have ac := bu
       have ad := bv
       have HB := aW
       clear bk bm bn bo bp bq br bs bu bv aW
       (try clear hb)
       (try clear hk)
       (try clear bB)
       refine hK.out _ _ ⟨(blk_cell aa.out 0).trans rfl,(blk_cell aa.out 1).trans rfl,(blk_cell aa.out 2).trans rfl,(blk_cell aa.out 3).trans rfl,(blk_cell aa.out 4).trans rfl,(blk_cell aa.out 5).trans rfl,(blk_cell ac.out 0).trans rfl,(blk_cell ac.out 1).trans rfl,(blk_cell ac.out 2).trans rfl,(blk_cell ac.out 3).trans rfl,(blk_cell ac.out 4).trans rfl,(blk_cell ac.out 5).trans rfl,(blk_cell ad.out 0).trans rfl,(blk_cell ad.out 1).trans rfl,(blk_cell ad.out 2).trans rfl,(blk_cell ad.out 3).trans rfl,(blk_cell ad.out 4).trans rfl,(blk_cell ad.out 5).trans rfl⟩ (fun hHeld => ?_)
       clear hK K
       refine norm_ (a' := ?_) ?_ ?_
       rotate_left
       ·show Act.put _ (some 38) _ = _
        simp only [Act.put,z1_,z2_,z3_,i64_w,i32_w]
        rfl
       refine join_ (σ := Value) 12 (bA 18 63) (fun s_ => [(39,.string (strOfNums bH)),(41,s_),(42,.string (strOfNums bD))]) (fun s_ w' => (w'.cell? ⟨ai,0,none⟩ = some (.int .i64 aG) ∧ w'.cell? ⟨ai,1,none⟩ = some (.int .i64 aH) ∧ w'.cell? ⟨ai,2,none⟩ = some (.int .i64 aI) ∧ w'.cell? ⟨ai,3,none⟩ = some (.slice a1 aB.length a2) ∧ w'.cell? ⟨ai,4,none⟩ = some (.slice a3 aC.length a4) ∧ w'.cell? ⟨ai,5,none⟩ = some (.slice a5 aD.length a6) ∧ w'.cell? ⟨ae,0,none⟩ = some (.int .i64 aM) ∧ w'.cell? ⟨ae,1,none⟩ = some (.int .i64 aO) ∧ w'.cell? ⟨ae,2,none⟩ = some (.int .i64 aP) ∧ w'.cell? ⟨ae,3,none⟩ = some (.slice aS ao.length aT) ∧ w'.cell? ⟨ae,4,none⟩ = some (.slice aU ap.length aV) ∧ w'.cell? ⟨ae,5,none⟩ = some (.slice be av.length bf) ∧ w'.cell? ⟨ab,0,none⟩ = some (.int .i64 au) ∧ w'.cell? ⟨ab,1,none⟩ = some (.int .i64 aw) ∧ w'.cell? ⟨ab,2,none⟩ = some (.int .i64 ax) ∧ w'.cell? ⟨ab,3,none⟩ = some (.slice aE am.length aF) ∧ w'.cell? ⟨ab,4,none⟩ = some (.slice aJ an.length aL) ∧ w'.cell? ⟨ab,5,none⟩ = some (.slice aX ar.length aY)) ∧ (Kd.R (Kd.int .i64) 3 w' w.heap.size (fun k_ => some k_ ≠ (.slice aU ap.length aV : Value).ownBlock ∧ some k_ ≠ (.slice aE am.length aF : Value).ownBlock ∧ some k_ ≠ (.slice aJ an.length aL : Value).ownBlock) (.slice aS ao.length aT) ao) ∧ (Kd.R (Kd.int .i64) 3 w' w.heap.size (fun k_ => some k_ ≠ (.slice aS ao.length aT : Value).ownBlock ∧ some k_ ≠ (.slice aE am.length aF : Value).ownBlock ∧ some k_ ≠ (.slice aJ an.length aL : Value).ownBlock) (.slice aU ap.length aV) ap) ∧ (Kd.R Kd.string 9 w' w.heap.size (fun k_ => some k_ ≠ (.slice aX ar.length aY : Value).ownBlock) (.slice be av.length bf) av) ∧ (Kd.R (Kd.int .i64) 3 w' w.heap.size (fun k_ => some k_ ≠ (.slice aS ao.length aT : Value).ownBlock ∧ some k_ ≠ (.slice aU ap.length aV : Value).ownBlock ∧ some k_ ≠ (.slice aJ an.length aL : Value).ownBlock) (.slice aE am.length aF) am) ∧ (Kd.R (Kd.int .i64) 3 w' w.heap.size (fun k_ => some k_ ≠ (.slice aS ao.length aT : Value).ownBlock ∧ some k_ ≠ (.slice aU ap.length aV : Value).ownBlock ∧ some k_ ≠ (.slice aE am.length aF : Value).ownBlock) (.slice aJ an.length aL) an) ∧ (Kd.R Kd.string 9 w' w.heap.size (fun k_ => some k_ ≠ (.slice be av.length bf : Value).ownBlock) (.slice aX ar.length aY) ar) ∧ (Kd.R (Kd.int .u8) 5 w' w.heap.size (fun k_ => some k_ ≠ (s_ : Value).ownBlock) bQ bH) ∧ (Kd.R (Kd.int .u8) 5 w' w.heap.size (fun k_ => some k_ ≠ (bQ : Value).ownBlock) s_ bD) ∧ (w'.heap[ai]? = some (.cells #[.int .i64 aG,.int .i64 aH,.int .i64 aI,.slice a1 aB.length a2,.slice a3 aC.length a4,.slice a5 aD.length a6] 30 (0,0))) ∧ (w'.heap[ae]? = some (.cells #[.int .i64 aM,.int .i64 aO,.int .i64 aP,.slice aS ao.length aT,.slice aU ap.length aV,.slice be av.length bf] 30 (0,0))) ∧ (w'.heap[ab]? = some (.cells #[.int .i64 au,.int .i64 aw,.int .i64 ax,.slice aE am.length aF,.slice aJ an.length aL,.slice aX ar.length aY] 30 (0,0))) ∧ (Below w.heap.size w w')) ?_ ?_
       rotate_left
       ·intro hCont
        refine two_ (i := 2) (j := 4) (Ni := some 39) (Nj := some 41) (bA 18 15) (bA 18 27) rfl rfl rfl rfl (two_of HT_.out (by kernel_rfl)) (by decide) (by decide) (fun K hK => ?_) (fun K hK => ?_)
        ·skip
         have da := own_string (P := Tryz.prog) Tryz.underlying31 Tryz.underlying5 Tryz.underlying9 (Kd.own_of_R aq.out)
         refine value_ (w1 := ?_) (v := ?_) (by rfl) rfl ?_ ?_
         rotate_left 2
         ·go_simp
          constructor
          ·rfl
          ·rfl
         clear da
         refine hK.out _ _ ⟨(blk_cell aa.out 0).trans rfl,(blk_cell aa.out 1).trans rfl,(blk_cell aa.out 2).trans rfl,(blk_cell aa.out 3).trans rfl,(blk_cell aa.out 4).trans rfl,(blk_cell aa.out 5).trans rfl,(blk_cell ac.out 0).trans rfl,(blk_cell ac.out 1).trans rfl,(blk_cell ac.out 2).trans rfl,(blk_cell ac.out 3).trans rfl,(blk_cell ac.out 4).trans rfl,(blk_cell ac.out 5).trans rfl,(blk_cell ad.out 0).trans rfl,(blk_cell ad.out 1).trans rfl,(blk_cell ad.out 2).trans rfl,(blk_cell ad.out 3).trans rfl,(blk_cell ad.out 4).trans rfl,(blk_cell ad.out 5).trans rfl⟩ (fun hHeld => ?_)
         clear hK K
         refine norm_ (a' := ?_) ?_ ?_
         rotate_left
         ·show Act.put _ (some 39) _ = _
          simp only [Act.put,z1_,z2_,z3_,i64_w,i32_w]
          rfl
         refine one_ (i := 4) (N := some 41) (bA 18 31) rfl rfl (one_of HT_.out (by kernel_rfl)) (by decide) (fun K hK => ?_)
         refine goes_ Tryz.func13 (by kernel_rfl) rfl #[.agg #[.int .i64 aG,.int .i64 aH,.int .i64 aI,.slice a1 aB.length a2,.slice a3 aC.length a4,.slice a5 aD.length a6]] (by rfl) rfl rfl (by (try simp only [z4_,z5_,z6_]);first|done|rfl|(simp only [z7_,z8_];rfl)) ?_
         with_reducible refine (r33_Encode.calls kj4 aG aH aI _ _ aB _ _ aC _ _ aD bD _ ?aQ ?aR ?a9 ?ba ?bb ?bc cH.out).mono ?_
         (case aQ => exact cM (Kd.C_below bJ.out HB.out))
         (case aR => exact bK.out)
         (case a9 => exact cM (Kd.C_below bL.out HB.out))
         (case ba => exact bN.out)
         (case bb => exact cM (Kd.C_below bO.out HB.out))
         (case bc => exact bP.out)
         rintro e ee ⟨bC,rfl,bB,hb⟩
         refine ⟨_,rfl,?_⟩
         have bk := aK (Kd.R_below (rM af.out) hb)
         have bm := aK (Kd.R_below (rM ag.out) hb)
         have bn := aK (Kd.R_below (rM ah.out) hb)
         have bo := aK (Kd.R_below (rM aj.out) hb)
         have bp := aK (Kd.R_below (rM ak.out) hb)
         have bq := aK (Kd.R_below (rM al.out) hb)
         have br := aK (Kd.R_elder' (rM aq.out) (Kd.R_base bB) hb)
         have bs := aK (Kd.R_lower (Kd.R_new' bB (Kd.R_lt (rM aq.out))) (below_size (bG HB.out)))
         have bu := aK (blk_below (kM aa.out) hb)
         have bv := aK (blk_below (kM ac.out) hb)
         have aW := aK (blk_below (kM ad.out) hb)
         have bd := aK (below_step (bG HB.out) hb)
         clear af
         clear ag
         clear ah
         clear aj
         clear ak
         clear al
         clear aq
         clear aa
         clear ac
         clear ad
         clear HB
         have af := bk
         have ag := bm
         have ah := bn
         have aj := bo
         have ak := bp
         have al := bq
         have aq := br
         have aN := bs
         have aa := bu
         have ac := bv
         have ad := aW
         have HB := bd
         clear bk bm bn bo bp bq br bs bu bv aW bd
         (try clear hb)
         (try clear hk)
         (try clear bB)
         refine hK.out _ _ ⟨(blk_cell aa.out 0).trans rfl,(blk_cell aa.out 1).trans rfl,(blk_cell aa.out 2).trans rfl,(blk_cell aa.out 3).trans rfl,(blk_cell aa.out 4).trans rfl,(blk_cell aa.out 5).trans rfl,(blk_cell ac.out 0).trans rfl,(blk_cell ac.out 1).trans rfl,(blk_cell ac.out 2).trans rfl,(blk_cell ac.out 3).trans rfl,(blk_cell ac.out 4).trans rfl,(blk_cell ac.out 5).trans rfl,(blk_cell ad.out 0).trans rfl,(blk_cell ad.out 1).trans rfl,(blk_cell ad.out 2).trans rfl,(blk_cell ad.out 3).trans rfl,(blk_cell ad.out 4).trans rfl,(blk_cell ad.out 5).trans rfl⟩ (fun hHeld => ?_)
         clear hK K
         refine norm_ (a' := ?_) ?_ ?_
         rotate_left
         ·show Act.put _ (some 41) _ = _
          simp only [Act.put,z1_,z2_,z3_,i64_w,i32_w]
          rfl
         refine one_ (i := 5) (N := some 42) (bA 18 63) rfl rfl (one_of HT_.out (by kernel_rfl)) (by decide) (fun K hK => ?_)
         have bX := own_string (P := Tryz.prog) Tryz.underlying31 Tryz.underlying5 Tryz.underlying9 (Kd.own_of_R aN.out)
         refine value_ (w1 := ?_) (v := ?_) (by rfl) rfl ?_ ?_
         rotate_left 2
         ·go_simp
          constructor
          ·rfl
          ·rfl
         clear bX
         refine hK.out _ _ ⟨(blk_cell aa.out 0).trans rfl,(blk_cell aa.out 1).trans rfl,(blk_cell aa.out 2).trans rfl,(blk_cell aa.out 3).trans rfl,(blk_cell aa.out 4).trans rfl,(blk_cell aa.out 5).trans rfl,(blk_cell ac.out 0).trans rfl,(blk_cell ac.out 1).trans rfl,(blk_cell ac.out 2).trans rfl,(blk_cell ac.out 3).trans rfl,(blk_cell ac.out 4).trans rfl,(blk_cell ac.out 5).trans rfl,(blk_cell ad.out 0).trans rfl,(blk_cell ad.out 1).trans rfl,(blk_cell ad.out 2).trans rfl,(blk_cell ad.out 3).trans rfl,(blk_cell ad.out 4).trans rfl,(blk_cell ad.out 5).trans rfl⟩ (fun hHeld => ?_)
         clear hK K
         refine norm_ (a' := ?_) ?_ ?_
         rotate_left
         ·show Act.put _ (some 42) _ = _
          simp only [Act.put,z1_,z2_,z3_,i64_w,i32_w]
          rfl
         exact norm_ (by simp only [putAll,Act.put,z1_,z2_,z3_]) (hCont (bC) _ ⟨hHeld,(rM af.out),(rM ag.out),(rM ah.out),(rM aj.out),(rM ak.out),(rM al.out),(by refine rO ?_;exact Kd.R_mono aq.out (fun _ hk => hk.2)),(by refine rO ?_;exact Kd.R_mono aN.out (fun _ hk => hk.2)),(kM aa.out),(kM ac.out),(kM ad.out),(bG HB.out)⟩)
        ·skip
         refine goes_ Tryz.func13 (by kernel_rfl) rfl #[.agg #[.int .i64 aG,.int .i64 aH,.int .i64 aI,.slice a1 aB.length a2,.slice a3 aC.length a4,.slice a5 aD.length a6]] (by rfl) rfl rfl (by (try simp only [z4_,z5_,z6_]);first|done|rfl|(simp only [z7_,z8_];rfl)) ?_
         with_reducible refine (r33_Encode.calls kj4 aG aH aI _ _ aB _ _ aC _ _ aD bD _ ?aQ ?aR ?a9 ?ba ?bb ?bc cH.out).mono ?_
         (case aQ => exact cM (Kd.C_below bJ.out HB.out))
         (case aR => exact bK.out)
         (case a9 => exact cM (Kd.C_below bL.out HB.out))
         (case ba => exact bN.out)
         (case bb => exact cM (Kd.C_below bO.out HB.out))
         (case bc => exact bP.out)
         rintro e ef ⟨bC,rfl,bB,hb⟩
         refine ⟨_,rfl,?_⟩
         have bk := aK (Kd.R_below (rM af.out) hb)
         have bm := aK (Kd.R_below (rM ag.out) hb)
         have bn := aK (Kd.R_below (rM ah.out) hb)
         have bo := aK (Kd.R_below (rM aj.out) hb)
         have bp := aK (Kd.R_below (rM ak.out) hb)
         have bq := aK (Kd.R_below (rM al.out) hb)
         have br := aK (Kd.R_elder' (rM aq.out) (Kd.R_base bB) hb)
         have bs := aK (Kd.R_lower (Kd.R_new' bB (Kd.R_lt (rM aq.out))) (below_size (bG HB.out)))
         have bu := aK (blk_below (kM aa.out) hb)
         have bv := aK (blk_below (kM ac.out) hb)
         have aW := aK (blk_below (kM ad.out) hb)
         have bd := aK (below_step (bG HB.out) hb)
         clear af
         clear ag
         clear ah
         clear aj
         clear ak
         clear al
         clear aq
         clear aa
         clear ac
         clear ad
         clear HB
         have af := bk
         have ag := bm
         have ah := bn
         have aj := bo
         have ak := bp
         have al := bq
         have aq := br
         have aN := bs
         have aa := bu
         have ac := bv
         have ad := aW
         have HB := bd
         clear bk bm bn bo bp bq br bs bu bv aW bd
         (try clear hb)
         (try clear hk)
         (try clear bB)
         refine hK.out _ _ ⟨(blk_cell aa.out 0).trans rfl,(blk_cell aa.out 1).trans rfl,(blk_cell aa.out 2).trans rfl,(blk_cell aa.out 3).trans rfl,(blk_cell aa.out 4).trans rfl,(blk_cell aa.out 5).trans rfl,(blk_cell ac.out 0).trans rfl,(blk_cell ac.out 1).trans rfl,(blk_cell ac.out 2).trans rfl,(blk_cell ac.out 3).trans rfl,(blk_cell ac.out 4).trans rfl,(blk_cell ac.out 5).trans rfl,(blk_cell ad.out 0).trans rfl,(blk_cell ad.out 1).trans rfl,(blk_cell ad.out 2).trans rfl,(blk_cell ad.out 3).trans rfl,(blk_cell ad.out 4).trans rfl,(blk_cell ad.out 5).trans rfl⟩ (fun hHeld => ?_)
         clear hK K
         refine norm_ (a' := ?_) ?_ ?_
         rotate_left
         ·show Act.put _ (some 41) _ = _
          simp only [Act.put,z1_,z2_,z3_,i64_w,i32_w]
          rfl
         refine two_ (i := 2) (j := 5) (Ni := some 39) (Nj := some 42) (bA 18 31) (bA 18 59) rfl rfl rfl rfl (two_of HT_.out (by kernel_rfl)) (by decide) (by decide) (fun K hK => ?_) (fun K hK => ?_)
         ·skip
          have cf := own_string (P := Tryz.prog) Tryz.underlying31 Tryz.underlying5 Tryz.underlying9 (Kd.own_of_R aq.out)
          refine value_ (w1 := ?_) (v := ?_) (by rfl) rfl ?_ ?_
          rotate_left 2
          ·go_simp
           constructor
           ·rfl
           ·rfl
          clear cf
          refine hK.out _ _ ⟨(blk_cell aa.out 0).trans rfl,(blk_cell aa.out 1).trans rfl,(blk_cell aa.out 2).trans rfl,(blk_cell aa.out 3).trans rfl,(blk_cell aa.out 4).trans rfl,(blk_cell aa.out 5).trans rfl,(blk_cell ac.out 0).trans rfl,(blk_cell ac.out 1).trans rfl,(blk_cell ac.out 2).trans rfl,(blk_cell ac.out 3).trans rfl,(blk_cell ac.out 4).trans rfl,(blk_cell ac.out 5).trans rfl,(blk_cell ad.out 0).trans rfl,(blk_cell ad.out 1).trans rfl,(blk_cell ad.out 2).trans rfl,(blk_cell ad.out 3).trans rfl,(blk_cell ad.out 4).trans rfl,(blk_cell ad.out 5).trans rfl⟩ (fun hHeld => ?_)
          clear hK K
          refine norm_ (a' := ?_) ?_ ?_
          rotate_left
          ·show Act.put _ (some 39) _ = _
           simp only [Act.put,z1_,z2_,z3_,i64_w,i32_w]
           rfl
          refine one_ (i := 5) (N := some 42) (bA 18 63) rfl rfl (one_of HT_.out (by kernel_rfl)) (by decide) (fun K hK => ?_)
          have bX := own_string (P := Tryz.prog) Tryz.underlying31 Tryz.underlying5 Tryz.underlying9 (Kd.own_of_R aN.out)
          refine value_ (w1 := ?_) (v := ?_) (by rfl) rfl ?_ ?_
          rotate_left 2
          ·go_simp
           constructor
           ·rfl
           ·rfl
          clear bX
          refine hK.out _ _ ⟨(blk_cell aa.out 0).trans rfl,(blk_cell aa.out 1).trans rfl,(blk_cell aa.out 2).trans rfl,(blk_cell aa.out 3).trans rfl,(blk_cell aa.out 4).trans rfl,(blk_cell aa.out 5).trans rfl,(blk_cell ac.out 0).trans rfl,(blk_cell ac.out 1).trans rfl,(blk_cell ac.out 2).trans rfl,(blk_cell ac.out 3).trans rfl,(blk_cell ac.out 4).trans rfl,(blk_cell ac.out 5).trans rfl,(blk_cell ad.out 0).trans rfl,(blk_cell ad.out 1).trans rfl,(blk_cell ad.out 2).trans rfl,(blk_cell ad.out 3).trans rfl,(blk_cell ad.out 4).trans rfl,(blk_cell ad.out 5).trans rfl⟩ (fun hHeld => ?_)
          clear hK K
          refine norm_ (a' := ?_) ?_ ?_
          rotate_left
          ·show Act.put _ (some 42) _ = _
           simp only [Act.put,z1_,z2_,z3_,i64_w,i32_w]
           rfl
          exact norm_ (by simp only [putAll,Act.put,z1_,z2_,z3_]) (hCont (bC) _ ⟨hHeld,(rM af.out),(rM ag.out),(rM ah.out),(rM aj.out),(rM ak.out),(rM al.out),(by refine rO ?_;exact Kd.R_mono aq.out (fun _ hk => hk.2)),(by refine rO ?_;exact Kd.R_mono aN.out (fun _ hk => hk.2)),(kM aa.out),(kM ac.out),(kM ad.out),(bG HB.out)⟩)
         ·skip
          have cf := own_string (P := Tryz.prog) Tryz.underlying31 Tryz.underlying5 Tryz.underlying9 (Kd.own_of_R aN.out)
          refine value_ (w1 := ?_) (v := ?_) (by rfl) rfl ?_ ?_
          rotate_left 2
          ·go_simp
           constructor
           ·rfl
           ·rfl
          clear cf
          refine hK.out _ _ ⟨(blk_cell aa.out 0).trans rfl,(blk_cell aa.out 1).trans rfl,(blk_cell aa.out 2).trans rfl,(blk_cell aa.out 3).trans rfl,(blk_cell aa.out 4).trans rfl,(blk_cell aa.out 5).trans rfl,(blk_cell ac.out 0).trans rfl,(blk_cell ac.out 1).trans rfl,(blk_cell ac.out 2).trans rfl,(blk_cell ac.out 3).trans rfl,(blk_cell ac.out 4).trans rfl,(blk_cell ac.out 5).trans rfl,(blk_cell ad.out 0).trans rfl,(blk_cell ad.out 1).trans rfl,(blk_cell ad.out 2).trans rfl,(blk_cell ad.out 3).trans rfl,(blk_cell ad.out 4).trans rfl,(blk_cell ad.out 5).trans rfl⟩ (fun hHeld => ?_)
          clear hK K
          refine norm_ (a' := ?_) ?_ ?_
          rotate_left
          ·show Act.put _ (some 42) _ = _
           simp only [Act.put,z1_,z2_,z3_,i64_w,i32_w]
           rfl
          refine one_ (i := 2) (N := some 39) (bA 18 63) rfl rfl (one_of HT_.out (by kernel_rfl)) (by decide) (fun K hK => ?_)
          have bX := own_string (P := Tryz.prog) Tryz.underlying31 Tryz.underlying5 Tryz.underlying9 (Kd.own_of_R aq.out)
          refine value_ (w1 := ?_) (v := ?_) (by rfl) rfl ?_ ?_
          rotate_left 2
          ·go_simp
           constructor
           ·rfl
           ·rfl
          clear bX
          refine hK.out _ _ ⟨(blk_cell aa.out 0).trans rfl,(blk_cell aa.out 1).trans rfl,(blk_cell aa.out 2).trans rfl,(blk_cell aa.out 3).trans rfl,(blk_cell aa.out 4).trans rfl,(blk_cell aa.out 5).trans rfl,(blk_cell ac.out 0).trans rfl,(blk_cell ac.out 1).trans rfl,(blk_cell ac.out 2).trans rfl,(blk_cell ac.out 3).trans rfl,(blk_cell ac.out 4).trans rfl,(blk_cell ac.out 5).trans rfl,(blk_cell ad.out 0).trans rfl,(blk_cell ad.out 1).trans rfl,(blk_cell ad.out 2).trans rfl,(blk_cell ad.out 3).trans rfl,(blk_cell ad.out 4).trans rfl,(blk_cell ad.out 5).trans rfl⟩ (fun hHeld => ?_)
          clear hK K
          refine norm_ (a' := ?_) ?_ ?_
          rotate_left
          ·show Act.put _ (some 39) _ = _
           simp only [Act.put,z1_,z2_,z3_,i64_w,i32_w]
           rfl
          exact norm_ (by simp only [putAll,Act.put,z1_,z2_,z3_]) (hCont (bC) _ ⟨hHeld,(rM af.out),(rM ag.out),(rM ah.out),(rM aj.out),(rM ak.out),(rM al.out),(by refine rO ?_;exact Kd.R_mono aq.out (fun _ hk => hk.2)),(by refine rO ?_;exact Kd.R_mono aN.out (fun _ hk => hk.2)),(kM aa.out),(kM ac.out),(kM ad.out),(bG HB.out)⟩)
       rintro bC bI ⟨hS_,cq,cr,ct,cu,cv,cw,cx,cy,cz,cA,bY,bZ⟩
       have bk : Aside0 (Kd.R (Kd.int .i64) 3 bI w.heap.size (fun k_ => some k_ ≠ (.slice aU ap.length aV : Value).ownBlock ∧ some k_ ≠ (.slice aE am.length aF : Value).ownBlock ∧ some k_ ≠ (.slice aJ an.length aL : Value).ownBlock) (.slice aS ao.length aT) ao) := ⟨cq⟩
       have bm : Aside0 (Kd.R (Kd.int .i64) 3 bI w.heap.size (fun k_ => some k_ ≠ (.slice aS ao.length aT : Value).ownBlock ∧ some k_ ≠ (.slice aE am.length aF : Value).ownBlock ∧ some k_ ≠ (.slice aJ an.length aL : Value).ownBlock) (.slice aU ap.length aV) ap) := ⟨cr⟩
       have bn : Aside0 (Kd.R Kd.string 9 bI w.heap.size (fun k_ => some k_ ≠ (.slice aX ar.length aY : Value).ownBlock) (.slice be av.length bf) av) := ⟨ct⟩
       have bo : Aside0 (Kd.R (Kd.int .i64) 3 bI w.heap.size (fun k_ => some k_ ≠ (.slice aS ao.length aT : Value).ownBlock ∧ some k_ ≠ (.slice aU ap.length aV : Value).ownBlock ∧ some k_ ≠ (.slice aJ an.length aL : Value).ownBlock) (.slice aE am.length aF) am) := ⟨cu⟩
       have bp : Aside0 (Kd.R (Kd.int .i64) 3 bI w.heap.size (fun k_ => some k_ ≠ (.slice aS ao.length aT : Value).ownBlock ∧ some k_ ≠ (.slice aU ap.length aV : Value).ownBlock ∧ some k_ ≠ (.slice aE am.length aF : Value).ownBlock) (.slice aJ an.length aL) an) := ⟨cv⟩
       have bq : Aside0 (Kd.R Kd.string 9 bI w.heap.size (fun k_ => some k_ ≠ (.slice be av.length bf : Value).ownBlock) (.slice aX ar.length aY) ar) := ⟨cw⟩
       have br : Aside0 (Kd.R (Kd.int .u8) 5 bI w.heap.size (fun k_ => some k_ ≠ (bC : Value).ownBlock) bQ bH) := ⟨cx⟩
       have bs : Aside0 (Kd.R (Kd.int .u8) 5 bI w.heap.size (fun k_ => some k_ ≠ (bQ : Value).ownBlock) bC bD) := ⟨cy⟩
       have bu : Aside0 (bI.heap[ai]? = some (.cells #[.int .i64 aG,.int .i64 aH,.int .i64 aI,.slice a1 aB.length a2,.slice a3 aC.length a4,.slice a5 aD.length a6] 30 (0,0))) := ⟨cz⟩
       have bv : Aside0 (bI.heap[ae]? = some (.cells #[.int .i64 aM,.int .i64 aO,.int .i64 aP,.slice aS ao.length aT,.slice aU ap.length aV,.slice be av.length bf] 30 (0,0))) := ⟨cA⟩
       have aW : Aside0 (bI.heap[ab]? = some (.cells #[.int .i64 au,.int .i64 aw,.int .i64 ax,.slice aE am.length aF,.slice aJ an.length aL,.slice aX ar.length aY] 30 (0,0))) := ⟨bY⟩
       have bd : Aside0 (Below w.heap.size w bI) := ⟨bZ⟩
       clear af
       clear ag
       clear ah
       clear aj
       clear ak
       clear al
       clear aa
       clear ac
       clear ad
       clear HB
       clear cq cr ct cu cv cw cx cy cz cA bY bZ
       have af := bk
       have ag := bm
       have ah := bn
       have aj := bo
       have ak := bp
       have al := bq
       have aq := br
       have aN := bs
       have aa := bu
       have ac := bv
       have ad := aW
       have HB := bd
       clear bk bm bn bo bp bq br bs bu bv aW bd
       have hHeld : bI.cell? ⟨ai,0,none⟩ = some (.int .i64 aG) ∧ bI.cell? ⟨ai,1,none⟩ = some (.int .i64 aH) ∧ bI.cell? ⟨ai,2,none⟩ = some (.int .i64 aI) ∧ bI.cell? ⟨ai,3,none⟩ = some (.slice a1 aB.length a2) ∧ bI.cell? ⟨ai,4,none⟩ = some (.slice a3 aC.length a4) ∧ bI.cell? ⟨ai,5,none⟩ = some (.slice a5 aD.length a6) ∧ bI.cell? ⟨ae,0,none⟩ = some (.int .i64 aM) ∧ bI.cell? ⟨ae,1,none⟩ = some (.int .i64 aO) ∧ bI.cell? ⟨ae,2,none⟩ = some (.int .i64 aP) ∧ bI.cell? ⟨ae,3,none⟩ = some (.slice aS ao.length aT) ∧ bI.cell? ⟨ae,4,none⟩ = some (.slice aU ap.length aV) ∧ bI.cell? ⟨ae,5,none⟩ = some (.slice be av.length bf) ∧ bI.cell? ⟨ab,0,none⟩ = some (.int .i64 au) ∧ bI.cell? ⟨ab,1,none⟩ = some (.int .i64 aw) ∧ bI.cell? ⟨ab,2,none⟩ = some (.int .i64 ax) ∧ bI.cell? ⟨ab,3,none⟩ = some (.slice aE am.length aF) ∧ bI.cell? ⟨ab,4,none⟩ = some (.slice aJ an.length aL) ∧ bI.cell? ⟨ab,5,none⟩ = some (.slice aX ar.length aY) := hS_
       refine norm_ (a' := ?_) ?_ ?_
       rotate_left
       ·simp only [putAll,Act.put,z1_,z2_,z3_]
        rfl
       refine pure_ (i := 6) (N := some 43) (v := ?_) (a' := ?_) (bA 18 127) rfl rfl (any_of HT_.out (by kernel_rfl)) (fun _ _ _ h => h) (Or.inl ⟨by rfl,?_⟩) ?_ ?_
       rotate_left
       ·intro w'
        go_simp
        with_reducible rfl
       rotate_left
       ·simp only [Act.put,z1_,z2_,z3_,i64_w,i32_w]
        rfl
       refine pure_ (i := 7) (N := some 44) (v := ?_) (a' := ?_) (bA 18 255) rfl rfl (any_of HT_.out (by kernel_rfl)) (fun _ _ _ h => h) (Or.inl ⟨by rfl,?_⟩) ?_ ?_
       rotate_left
       ·intro w'
        go_simp
        with_reducible rfl
       rotate_left
       ·simp only [Act.put,z1_,z2_,z3_,i64_w,i32_w]
        rfl
       refine pure_ (i := 8) (N := some 45) (v := ?_) (a' := ?_) (bA 18 511) rfl rfl (any_of HT_.out (by kernel_rfl)) (fun _ _ _ h => h) (Or.inl ⟨by rfl,?_⟩) ?_ ?_
       rotate_left
       ·intro w'
        go_simp
        with_reducible rfl
       rotate_left
       ·simp only [Act.put,z1_,z2_,z3_,i64_w,i32_w]
        rfl
       refine pure_ (i := 9) (N := some 46) (v := ?_) (a' := ?_) (bA 18 1023) rfl rfl (any_of HT_.out (by kernel_rfl)) (fun _ _ _ h => h) (Or.inl ⟨by rfl,?_⟩) ?_ ?_
       rotate_left
       ·intro w'
        go_simp
        with_reducible rfl
       rotate_left
       ·simp only [Act.put,z1_,z2_,z3_,i64_w,i32_w]
        rfl
       refine pure_ (i := 10) (N := some 47) (v := ?_) (a' := ?_) (bA 18 2047) rfl rfl (any_of HT_.out (by kernel_rfl)) (fun _ _ _ h => h) (Or.inl ⟨by rfl,?_⟩) ?_ ?_
       rotate_left
       ·intro w'
        go_simp
        with_reducible rfl
       rotate_left
       ·simp only [Act.put,z1_,z2_,z3_,i64_w,i32_w]
        rfl
       refine pure_ (i := 11) (N := some 48) (v := ?_) (a' := ?_) (bA 18 4095) rfl rfl (any_of HT_.out (by kernel_rfl)) (fun _ _ _ h => h) (Or.inl ⟨by rfl,?_⟩) ?_ ?_
       rotate_left
       ·intro w'
        go_simp
        with_reducible rfl
       rotate_left
       ·simp only [Act.put,z1_,z2_,z3_,i64_w,i32_w]
        rfl
       refine pure_ (i := 12) (N := some 49) (v := ?_) (a' := ?_) (bA 18 8191) rfl rfl (any_of HT_.out (by kernel_rfl)) (fun _ _ _ h => h) (Or.inl ⟨by rfl,?_⟩) ?_ ?_
       rotate_left
       ·intro w'
        go_simp
        with_reducible rfl
       rotate_left
       ·simp only [Act.put,z1_,z2_,z3_,i64_w,i32_w]
        rfl
       refine take_ (i := 13) (N := some 50) (v := ?_) (a' := ?_) (bA 18 16383) rfl rfl (take_ofW HT_.out HW_.out (by kernel_rfl)) (fun _ _ _ h => h) (Or.inl ⟨by rfl,?_⟩) hHeld ?_ ?_
       rotate_left
       ·rintro w' ⟨s0,s1,s2,s3,s4,s5,s6,s7,s8,s9,dB,dC,dD,dE,dF,dG,dH,dI⟩
        go_simp
        with_reducible rfl
       rotate_left
       ·simp only [Act.put,z1_,z2_,z3_,i64_w,i32_w]
        rfl
       refine take_ (i := 14) (N := some 51) (v := ?_) (a' := ?_) (bA 18 32767) rfl rfl (take_ofW HT_.out HW_.out (by kernel_rfl)) (fun _ _ _ h => h) (Or.inl ⟨by rfl,?_⟩) hHeld ?_ ?_
       rotate_left
       ·rintro w' ⟨s0,s1,s2,s3,s4,s5,s6,s7,s8,s9,dB,dC,dD,dE,dF,dG,dH,dI⟩
        go_simp
        with_reducible rfl
       rotate_left
       ·simp only [Act.put,z1_,z2_,z3_,i64_w,i32_w]
        rfl
       refine one_ (i := 15) (N := some 52) (bA 18 65535) rfl rfl (one_of HT_.out (by kernel_rfl)) (by decide) (fun K hK => ?_)
       refine goes_ Tryz.func14 (by kernel_rfl) rfl #[.agg #[.int .i64 aM,.int .i64 aO,.int .i64 aP,.slice aS ao.length aT,.slice aU ap.length aV,.slice be av.length bf],.agg #[.int .i64 au,.int .i64 aw,.int .i64 ax,.slice aE am.length aF,.slice aJ an.length aL,.slice aX ar.length aY]] (by rfl) rfl rfl (by (try simp only [z4_,z5_,z6_]);first|done|rfl|(simp only [z7_,z8_];rfl)) ?_
       with_reducible refine (r33_Same.calls kj4 aM aO aP _ _ ao _ _ ap _ _ av au aw ax _ _ am _ _ an _ _ ar b9 _ ?aQ ?aR ?a9 ?ba ?bb ?bc ?db ?dc ?dd ?cE ?cF ?cG d8.out).mono ?_
       (case aQ => exact cM (Kd.R_reads' af.out).2.2)
       (case aR => exact (Kd.R_reads' af.out).2.1)
       (case a9 => exact cM (Kd.R_reads' ag.out).2.2)
       (case ba => exact (Kd.R_reads' ag.out).2.1)
       (case bb => exact cM (Kd.R_reads' ah.out).2.2)
       (case bc => exact (Kd.R_reads' ah.out).2.1)
       (case db => exact cM (Kd.R_reads' aj.out).2.2)
       (case dc => exact (Kd.R_reads' aj.out).2.1)
       (case dd => exact cM (Kd.R_reads' ak.out).2.2)
       (case cE => exact (Kd.R_reads' ak.out).2.1)
       (case cF => exact cM (Kd.R_reads' al.out).2.2)
       (case cG => exact (Kd.R_reads' al.out).2.1)
       rintro e eg ⟨rfl,hb⟩
       refine ⟨_,rfl,?_⟩
       have bk := aK (Kd.R_below (rM af.out) hb)
       have bm := aK (Kd.R_below (rM ag.out) hb)
       have bn := aK (Kd.R_below (rM ah.out) hb)
       have bo := aK (Kd.R_below (rM aj.out) hb)
       have bp := aK (Kd.R_below (rM ak.out) hb)
       have bq := aK (Kd.R_below (rM al.out) hb)
       have br := aK (Kd.R_below (rM aq.out) hb)
       have bs := aK (Kd.R_below (rM aN.out) hb)
       have bu := aK (blk_below (kM aa.out) hb)
       have bv := aK (blk_below (kM ac.out) hb)
       have aW := aK (blk_below (kM ad.out) hb)
       have bd := aK (below_step (bG HB.out) hb)
       clear af
       clear ag
       clear ah
       clear aj
       clear ak
       clear al
       clear aq
       clear aN
       clear aa
       clear ac
       clear ad
       clear HB
       have af := bk
       have ag := bm
       have ah := bn
       have aj := bo
       have ak := bp
       have al := bq
       have aq := br
       have aN := bs
       have aa := bu
       have ac := bv
       have ad := aW
       have HB := bd
       clear bk bm bn bo bp bq br bs bu bv aW bd
       (try clear hb)
       (try clear hk)
       refine hK.out _ _ ⟨(blk_cell aa.out 0).trans rfl,(blk_cell aa.out 1).trans rfl,(blk_cell aa.out 2).trans rfl,(blk_cell aa.out 3).trans rfl,(blk_cell aa.out 4).trans rfl,(blk_cell aa.out 5).trans rfl,(blk_cell ac.out 0).trans rfl,(blk_cell ac.out 1).trans rfl,(blk_cell ac.out 2).trans rfl,(blk_cell ac.out 3).trans rfl,(blk_cell ac.out 4).trans rfl,(blk_cell ac.out 5).trans rfl,(blk_cell ad.out 0).trans rfl,(blk_cell ad.out 1).trans rfl,(blk_cell ad.out 2).trans rfl,(blk_cell ad.out 3).trans rfl,(blk_cell ad.out 4).trans rfl,(blk_cell ad.out 5).trans rfl⟩ (fun hHeld => ?_)
       clear hK K
       refine norm_ (a' := ?_) ?_ ?_
       rotate_left
       ·show Act.put _ (some 52) _ = _
        simp only [Act.put,z1_,z2_,z3_,i64_w,i32_w]
        rfl
       refine pure_ (i := 16) (N := some 53) (v := ?_) (a' := ?_) (bA 18 131071) rfl rfl (any_of HT_.out (by kernel_rfl)) (fun _ _ _ h => h) (Or.inl ⟨by rfl,?_⟩) ?_ ?_
       rotate_left
       ·intro w'
        go_simp
        with_reducible rfl
       rotate_left
       ·simp only [Act.put,z1_,z2_,z3_,i64_w,i32_w]
        rfl
       refine pure_ (i := 17) (N := some 4) (v := ?_) (a' := ?_) (bA 18 262143) rfl rfl (any_of HT_.out (by kernel_rfl)) (fun _ _ _ h => h) (Or.inl ⟨by rfl,?_⟩) ?_ ?_
       rotate_left
       ·intro w'
        go_simp
        with_reducible rfl
       rotate_left
       ·simp only [Act.put,z1_,z2_,z3_,i64_w,i32_w]
        rfl
       refine done_ (done_of HT_.out (by kernel_rfl)) ?_
       try go_wp2
       go_ret
       exact ⟨by first|rfl|(simp [errW_none,errW_some] <;> rfl)|(simp [*,errW_none,errW_some] <;> rfl),bG HB.out⟩
      ·rw [if_neg cD] at H
       have cY := beq_eq_false_iff_ne.mpr cD
       have cZ := bne_iff_ne.mpr cD
       obtain rfl := Option.some.inj H
       refine start_ (n := 18) (S := fun w' => w'.cell? ⟨ai,0,none⟩ = some (.int .i64 aG) ∧ w'.cell? ⟨ai,1,none⟩ = some (.int .i64 aH) ∧ w'.cell? ⟨ai,2,none⟩ = some (.int .i64 aI) ∧ w'.cell? ⟨ai,3,none⟩ = some (.slice a1 aB.length a2) ∧ w'.cell? ⟨ai,4,none⟩ = some (.slice a3 aC.length a4) ∧ w'.cell? ⟨ai,5,none⟩ = some (.slice a5 aD.length a6)) (ds := []) (bA 18 0) (by kernel_rfl) rfl rfl ⟨(blk_cell aa.out 0).trans rfl,(blk_cell aa.out 1).trans rfl,(blk_cell aa.out 2).trans rfl,(blk_cell aa.out 3).trans rfl,(blk_cell aa.out 4).trans rfl,(blk_cell aa.out 5).trans rfl⟩ (fun hHeld => ?_);refine with_tabW l33_ManifestBytes.tab7 l33_ManifestBytes.bits7 (fun HT_ HW_ => ?_)
       generalize w36.drew = w60 at af ag ah aj ak al aa ac ad HB hHeld ⊢
       refine take_ (i := 0) (N := some 37) (v := ?_) (a' := ?_) (bA 18 1) rfl rfl (take_ofW HT_.out HW_.out (by kernel_rfl)) (fun _ _ _ h => h) (Or.inl ⟨by rfl,?_⟩) hHeld ?_ ?_
       rotate_left
       ·rintro w' ⟨s0,s1,s2,s3,s4,s5⟩
        go_simp
        with_reducible rfl
       rotate_left
       ·simp only [Act.put,z1_,z2_,z3_,i64_w,i32_w]
        rfl
       refine take_ (i := 3) (N := some 40) (v := ?_) (a' := ?_) (bA 18 9) rfl rfl (take_ofW HT_.out HW_.out (by kernel_rfl)) (fun _ _ _ h => h) (Or.inl ⟨by rfl,?_⟩) hHeld ?_ ?_
       rotate_left
       ·rintro w' ⟨s0,s1,s2,s3,s4,s5⟩
        go_simp
        with_reducible rfl
       rotate_left
       ·simp only [Act.put,z1_,z2_,z3_,i64_w,i32_w]
        rfl
       refine one_ (i := 1) (N := some 38) (bA 18 11) rfl rfl (one_of HT_.out (by kernel_rfl)) (by decide) (fun K hK => ?_)
       refine goes_ Tryz.func12 (by kernel_rfl) rfl #[.agg #[.int .i64 aG,.int .i64 aH,.int .i64 aI,.slice a1 aB.length a2,.slice a3 aC.length a4,.slice a5 aD.length a6]] (by rfl) rfl rfl (by (try simp only [z4_,z5_,z6_]);first|done|rfl|(simp only [z7_,z8_];rfl)) ?_
       with_reducible refine (manifest_Encode.calls kj4 aG aH aI _ _ aB _ _ aC _ _ aD bH _ ?aQ ?aR ?a9 ?ba ?bb ?bc dl.out).mono ?_
       (case aQ => exact cM (Kd.C_below bJ.out HB.out))
       (case aR => exact bK.out)
       (case a9 => exact cM (Kd.C_below bL.out HB.out))
       (case ba => exact bN.out)
       (case bb => exact cM (Kd.C_below bO.out HB.out))
       (case bc => exact bP.out)
       rintro e eh ⟨bQ,rfl,bB,hb⟩
       refine ⟨_,rfl,?_⟩
       have bk := aK (Kd.R_below (rM af.out) hb)
       have bm := aK (Kd.R_below (rM ag.out) hb)
       have bn := aK (Kd.R_below (rM ah.out) hb)
       have bo := aK (Kd.R_below (rM aj.out) hb)
       have bp := aK (Kd.R_below (rM ak.out) hb)
       have bq := aK (Kd.R_below (rM al.out) hb)
       have br := aK (Kd.R_lower bB (below_size (bG HB.out)))
       have bs := aK (blk_below (kM aa.out) hb)
       have bu := aK (blk_below (kM ac.out) hb)
       have bv := aK (blk_below (kM ad.out) hb)
       have aW := aK (below_step (bG HB.out) hb)
       clear af
       clear ag
       clear ah
       clear aj
       clear ak
       clear al
       clear aa
       clear ac
       clear ad
       clear HB
       have af := bk
       have ag := bm
       have ah := bn
       have aj := bo
       have ak := bp
       have al := bq
       have aq := br
       have aa := bs
       have ac := bu
       have ad := bv
       have HB := aW
       clear bk bm bn bo bp bq br bs bu bv aW
       (try clear hb)
       (try clear hk)
       (try clear bB)
       refine hK.out _ _ ⟨(blk_cell aa.out 0).trans rfl,(blk_cell aa.out 1).trans rfl,(blk_cell aa.out 2).trans rfl,(blk_cell aa.out 3).trans rfl,(blk_cell aa.out 4).trans rfl,(blk_cell aa.out 5).trans rfl⟩ (fun hHeld => ?_)
       clear hK K
       refine norm_ (a' := ?_) ?_ ?_
       rotate_left
       ·show Act.put _ (some 38) _ = _
        simp only [Act.put,z1_,z2_,z3_,i64_w,i32_w]
        rfl
       refine join_ (σ := Value) 12 (bA 18 63) (fun s_ => [(39,.string (strOfNums bH)),(41,s_),(42,.string (strOfNums bD))]) (fun s_ w' => (w'.cell? ⟨ai,0,none⟩ = some (.int .i64 aG) ∧ w'.cell? ⟨ai,1,none⟩ = some (.int .i64 aH) ∧ w'.cell? ⟨ai,2,none⟩ = some (.int .i64 aI) ∧ w'.cell? ⟨ai,3,none⟩ = some (.slice a1 aB.length a2) ∧ w'.cell? ⟨ai,4,none⟩ = some (.slice a3 aC.length a4) ∧ w'.cell? ⟨ai,5,none⟩ = some (.slice a5 aD.length a6)) ∧ (Kd.R (Kd.int .i64) 3 w' w.heap.size (fun k_ => some k_ ≠ (.slice aU ap.length aV : Value).ownBlock ∧ some k_ ≠ (.slice aE am.length aF : Value).ownBlock ∧ some k_ ≠ (.slice aJ an.length aL : Value).ownBlock) (.slice aS ao.length aT) ao) ∧ (Kd.R (Kd.int .i64) 3 w' w.heap.size (fun k_ => some k_ ≠ (.slice aS ao.length aT : Value).ownBlock ∧ some k_ ≠ (.slice aE am.length aF : Value).ownBlock ∧ some k_ ≠ (.slice aJ an.length aL : Value).ownBlock) (.slice aU ap.length aV) ap) ∧ (Kd.R Kd.string 9 w' w.heap.size (fun k_ => some k_ ≠ (.slice aX ar.length aY : Value).ownBlock) (.slice be av.length bf) av) ∧ (Kd.R (Kd.int .i64) 3 w' w.heap.size (fun k_ => some k_ ≠ (.slice aS ao.length aT : Value).ownBlock ∧ some k_ ≠ (.slice aU ap.length aV : Value).ownBlock ∧ some k_ ≠ (.slice aJ an.length aL : Value).ownBlock) (.slice aE am.length aF) am) ∧ (Kd.R (Kd.int .i64) 3 w' w.heap.size (fun k_ => some k_ ≠ (.slice aS ao.length aT : Value).ownBlock ∧ some k_ ≠ (.slice aU ap.length aV : Value).ownBlock ∧ some k_ ≠ (.slice aE am.length aF : Value).ownBlock) (.slice aJ an.length aL) an) ∧ (Kd.R Kd.string 9 w' w.heap.size (fun k_ => some k_ ≠ (.slice be av.length bf : Value).ownBlock) (.slice aX ar.length aY) ar) ∧ (Kd.R (Kd.int .u8) 5 w' w.heap.size (fun k_ => some k_ ≠ (s_ : Value).ownBlock) bQ bH) ∧ (Kd.R (Kd.int .u8) 5 w' w.heap.size (fun k_ => some k_ ≠ (bQ : Value).ownBlock) s_ bD) ∧ (w'.heap[ai]? = some (.cells #[.int .i64 aG,.int .i64 aH,.int .i64 aI,.slice a1 aB.length a2,.slice a3 aC.length a4,.slice a5 aD.length a6] 30 (0,0))) ∧ (w'.heap[ae]? = some (.cells #[.int .i64 aM,.int .i64 aO,.int .i64 aP,.slice aS ao.length aT,.slice aU ap.length aV,.slice be av.length bf] 30 (0,0))) ∧ (w'.heap[ab]? = some (.cells #[.int .i64 au,.int .i64 aw,.int .i64 ax,.slice aE am.length aF,.slice aJ an.length aL,.slice aX ar.length aY] 30 (0,0))) ∧ (Below w.heap.size w w')) ?_ ?_
       rotate_left
       ·intro hCont
        refine two_ (i := 2) (j := 4) (Ni := some 39) (Nj := some 41) (bA 18 15) (bA 18 27) rfl rfl rfl rfl (two_of HT_.out (by kernel_rfl)) (by decide) (by decide) (fun K hK => ?_) (fun K hK => ?_)
        ·skip
         have de := own_string (P := Tryz.prog) Tryz.underlying31 Tryz.underlying5 Tryz.underlying9 (Kd.own_of_R aq.out)
         refine value_ (w1 := ?_) (v := ?_) (by rfl) rfl ?_ ?_
         rotate_left 2
         ·go_simp
          constructor
          ·rfl
          ·rfl
         clear de
         refine hK.out _ _ ⟨(blk_cell aa.out 0).trans rfl,(blk_cell aa.out 1).trans rfl,(blk_cell aa.out 2).trans rfl,(blk_cell aa.out 3).trans rfl,(blk_cell aa.out 4).trans rfl,(blk_cell aa.out 5).trans rfl⟩ (fun hHeld => ?_)
         clear hK K
         refine norm_ (a' := ?_) ?_ ?_
         rotate_left
         ·show Act.put _ (some 39) _ = _
          simp only [Act.put,z1_,z2_,z3_,i64_w,i32_w]
          rfl
         refine one_ (i := 4) (N := some 41) (bA 18 31) rfl rfl (one_of HT_.out (by kernel_rfl)) (by decide) (fun K hK => ?_)
         refine goes_ Tryz.func13 (by kernel_rfl) rfl #[.agg #[.int .i64 aG,.int .i64 aH,.int .i64 aI,.slice a1 aB.length a2,.slice a3 aC.length a4,.slice a5 aD.length a6]] (by rfl) rfl rfl (by (try simp only [z4_,z5_,z6_]);first|done|rfl|(simp only [z7_,z8_];rfl)) ?_
         with_reducible refine (r33_Encode.calls kj4 aG aH aI _ _ aB _ _ aC _ _ aD bD _ ?aQ ?aR ?a9 ?ba ?bb ?bc cH.out).mono ?_
         (case aQ => exact cM (Kd.C_below bJ.out HB.out))
         (case aR => exact bK.out)
         (case a9 => exact cM (Kd.C_below bL.out HB.out))
         (case ba => exact bN.out)
         (case bb => exact cM (Kd.C_below bO.out HB.out))
         (case bc => exact bP.out)
         rintro e ei ⟨bC,rfl,bB,hb⟩
         refine ⟨_,rfl,?_⟩
         have bk := aK (Kd.R_below (rM af.out) hb)
         have bm := aK (Kd.R_below (rM ag.out) hb)
         have bn := aK (Kd.R_below (rM ah.out) hb)
         have bo := aK (Kd.R_below (rM aj.out) hb)
         have bp := aK (Kd.R_below (rM ak.out) hb)
         have bq := aK (Kd.R_below (rM al.out) hb)
         have br := aK (Kd.R_elder' (rM aq.out) (Kd.R_base bB) hb)
         have bs := aK (Kd.R_lower (Kd.R_new' bB (Kd.R_lt (rM aq.out))) (below_size (bG HB.out)))
         have bu := aK (blk_below (kM aa.out) hb)
         have bv := aK (blk_below (kM ac.out) hb)
         have aW := aK (blk_below (kM ad.out) hb)
         have bd := aK (below_step (bG HB.out) hb)
         clear af
         clear ag
         clear ah
         clear aj
         clear ak
         clear al
         clear aq
         clear aa
         clear ac
         clear ad
         clear HB
         have af := bk
         have ag := bm
         have ah := bn
         have aj := bo
         have ak := bp
         have al := bq
         have aq := br
         have aN := bs
         have aa := bu
         have ac := bv
         have ad := aW
         have HB := bd
         clear bk bm bn bo bp bq br bs bu bv aW bd
         (try clear hb)
         (try clear hk)
         (try clear bB)
         refine hK.out _ _ ⟨(blk_cell aa.out 0).trans rfl,(blk_cell aa.out 1).trans rfl,(blk_cell aa.out 2).trans rfl,(blk_cell aa.out 3).trans rfl,(blk_cell aa.out 4).trans rfl,(blk_cell aa.out 5).trans rfl⟩ (fun hHeld => ?_)
         clear hK K
         refine norm_ (a' := ?_) ?_ ?_
         rotate_left
         ·show Act.put _ (some 41) _ = _
          simp only [Act.put,z1_,z2_,z3_,i64_w,i32_w]
          rfl
         refine one_ (i := 5) (N := some 42) (bA 18 63) rfl rfl (one_of HT_.out (by kernel_rfl)) (by decide) (fun K hK => ?_)
         have b0 := own_string (P := Tryz.prog) Tryz.underlying31 Tryz.underlying5 Tryz.underlying9 (Kd.own_of_R aN.out)
         refine value_ (w1 := ?_) (v := ?_) (by rfl) rfl ?_ ?_
         rotate_left 2
         ·go_simp
          constructor
          ·rfl
          ·rfl
         clear b0
         refine hK.out _ _ ⟨(blk_cell aa.out 0).trans rfl,(blk_cell aa.out 1).trans rfl,(blk_cell aa.out 2).trans rfl,(blk_cell aa.out 3).trans rfl,(blk_cell aa.out 4).trans rfl,(blk_cell aa.out 5).trans rfl⟩ (fun hHeld => ?_)
         clear hK K
         refine norm_ (a' := ?_) ?_ ?_
         rotate_left
         ·show Act.put _ (some 42) _ = _
          simp only [Act.put,z1_,z2_,z3_,i64_w,i32_w]
          rfl
         exact norm_ (by simp only [putAll,Act.put,z1_,z2_,z3_]) (hCont (bC) _ ⟨hHeld,(rM af.out),(rM ag.out),(rM ah.out),(rM aj.out),(rM ak.out),(rM al.out),(by refine rO ?_;exact Kd.R_mono aq.out (fun _ hk => hk.2)),(by refine rO ?_;exact Kd.R_mono aN.out (fun _ hk => hk.2)),(kM aa.out),(kM ac.out),(kM ad.out),(bG HB.out)⟩)
        ·skip
         refine goes_ Tryz.func13 (by kernel_rfl) rfl #[.agg #[.int .i64 aG,.int .i64 aH,.int .i64 aI,.slice a1 aB.length a2,.slice a3 aC.length a4,.slice a5 aD.length a6]] (by rfl) rfl rfl (by (try simp only [z4_,z5_,z6_]);first|done|rfl|(simp only [z7_,z8_];rfl)) ?_
         with_reducible refine (r33_Encode.calls kj4 aG aH aI _ _ aB _ _ aC _ _ aD bD _ ?aQ ?aR ?a9 ?ba ?bb ?bc cH.out).mono ?_
         (case aQ => exact cM (Kd.C_below bJ.out HB.out))
         (case aR => exact bK.out)
         (case a9 => exact cM (Kd.C_below bL.out HB.out))
         (case ba => exact bN.out)
         (case bb => exact cM (Kd.C_below bO.out HB.out))
         (case bc => exact bP.out)
         rintro e ej ⟨bC,rfl,bB,hb⟩
         refine ⟨_,rfl,?_⟩
         have bk := aK (Kd.R_below (rM af.out) hb)
         have bm := aK (Kd.R_below (rM ag.out) hb)
         have bn := aK (Kd.R_below (rM ah.out) hb)
         have bo := aK (Kd.R_below (rM aj.out) hb)
         have bp := aK (Kd.R_below (rM ak.out) hb)
         have bq := aK (Kd.R_below (rM al.out) hb)
         have br := aK (Kd.R_elder' (rM aq.out) (Kd.R_base bB) hb)
         have bs := aK (Kd.R_lower (Kd.R_new' bB (Kd.R_lt (rM aq.out))) (below_size (bG HB.out)))
         have bu := aK (blk_below (kM aa.out) hb)
         have bv := aK (blk_below (kM ac.out) hb)
         have aW := aK (blk_below (kM ad.out) hb)
         have bd := aK (below_step (bG HB.out) hb)
         clear af
         clear ag
         clear ah
         clear aj
         clear ak
         clear al
         clear aq
         clear aa
         clear ac
         clear ad
         clear HB
         have af := bk
         have ag := bm
         have ah := bn
         have aj := bo
         have ak := bp
         have al := bq
         have aq := br
         have aN := bs
         have aa := bu
         have ac := bv
         have ad := aW
         have HB := bd
         clear bk bm bn bo bp bq br bs bu bv aW bd
         (try clear hb)
         (try clear hk)
         (try clear bB)
         refine hK.out _ _ ⟨(blk_cell aa.out 0).trans rfl,(blk_cell aa.out 1).trans rfl,(blk_cell aa.out 2).trans rfl,(blk_cell aa.out 3).trans rfl,(blk_cell aa.out 4).trans rfl,(blk_cell aa.out 5).trans rfl⟩ (fun hHeld => ?_)
         clear hK K
         refine norm_ (a' := ?_) ?_ ?_
         rotate_left
         ·show Act.put _ (some 41) _ = _
          simp only [Act.put,z1_,z2_,z3_,i64_w,i32_w]
          rfl
         refine two_ (i := 2) (j := 5) (Ni := some 39) (Nj := some 42) (bA 18 31) (bA 18 59) rfl rfl rfl rfl (two_of HT_.out (by kernel_rfl)) (by decide) (by decide) (fun K hK => ?_) (fun K hK => ?_)
         ·skip
          have cg := own_string (P := Tryz.prog) Tryz.underlying31 Tryz.underlying5 Tryz.underlying9 (Kd.own_of_R aq.out)
          refine value_ (w1 := ?_) (v := ?_) (by rfl) rfl ?_ ?_
          rotate_left 2
          ·go_simp
           constructor
           ·rfl
           ·rfl
          clear cg
          refine hK.out _ _ ⟨(blk_cell aa.out 0).trans rfl,(blk_cell aa.out 1).trans rfl,(blk_cell aa.out 2).trans rfl,(blk_cell aa.out 3).trans rfl,(blk_cell aa.out 4).trans rfl,(blk_cell aa.out 5).trans rfl⟩ (fun hHeld => ?_)
          clear hK K
          refine norm_ (a' := ?_) ?_ ?_
          rotate_left
          ·show Act.put _ (some 39) _ = _
           simp only [Act.put,z1_,z2_,z3_,i64_w,i32_w]
           rfl
          refine one_ (i := 5) (N := some 42) (bA 18 63) rfl rfl (one_of HT_.out (by kernel_rfl)) (by decide) (fun K hK => ?_)
          have b0 := own_string (P := Tryz.prog) Tryz.underlying31 Tryz.underlying5 Tryz.underlying9 (Kd.own_of_R aN.out)
          refine value_ (w1 := ?_) (v := ?_) (by rfl) rfl ?_ ?_
          rotate_left 2
          ·go_simp
           constructor
           ·rfl
           ·rfl
          clear b0
          refine hK.out _ _ ⟨(blk_cell aa.out 0).trans rfl,(blk_cell aa.out 1).trans rfl,(blk_cell aa.out 2).trans rfl,(blk_cell aa.out 3).trans rfl,(blk_cell aa.out 4).trans rfl,(blk_cell aa.out 5).trans rfl⟩ (fun hHeld => ?_)
          clear hK K
          refine norm_ (a' := ?_) ?_ ?_
          rotate_left
          ·show Act.put _ (some 42) _ = _
           simp only [Act.put,z1_,z2_,z3_,i64_w,i32_w]
           rfl
          exact norm_ (by simp only [putAll,Act.put,z1_,z2_,z3_]) (hCont (bC) _ ⟨hHeld,(rM af.out),(rM ag.out),(rM ah.out),(rM aj.out),(rM ak.out),(rM al.out),(by refine rO ?_;exact Kd.R_mono aq.out (fun _ hk => hk.2)),(by refine rO ?_;exact Kd.R_mono aN.out (fun _ hk => hk.2)),(kM aa.out),(kM ac.out),(kM ad.out),(bG HB.out)⟩)
         ·skip
          have cg := own_string (P := Tryz.prog) Tryz.underlying31 Tryz.underlying5 Tryz.underlying9 (Kd.own_of_R aN.out)
          refine value_ (w1 := ?_) (v := ?_) (by rfl) rfl ?_ ?_
          rotate_left 2
          ·go_simp
           constructor
           ·rfl
           ·rfl
          clear cg
          refine hK.out _ _ ⟨(blk_cell aa.out 0).trans rfl,(blk_cell aa.out 1).trans rfl,(blk_cell aa.out 2).trans rfl,(blk_cell aa.out 3).trans rfl,(blk_cell aa.out 4).trans rfl,(blk_cell aa.out 5).trans rfl⟩ (fun hHeld => ?_)
          clear hK K
          refine norm_ (a' := ?_) ?_ ?_
          rotate_left
          ·show Act.put _ (some 42) _ = _
           simp only [Act.put,z1_,z2_,z3_,i64_w,i32_w]
           rfl
          refine one_ (i := 2) (N := some 39) (bA 18 63) rfl rfl (one_of HT_.out (by kernel_rfl)) (by decide) (fun K hK => ?_)
          have b0 := own_string (P := Tryz.prog) Tryz.underlying31 Tryz.underlying5 Tryz.underlying9 (Kd.own_of_R aq.out)
          refine value_ (w1 := ?_) (v := ?_) (by rfl) rfl ?_ ?_
          rotate_left 2
          ·go_simp
           constructor
           ·rfl
           ·rfl
          clear b0
          refine hK.out _ _ ⟨(blk_cell aa.out 0).trans rfl,(blk_cell aa.out 1).trans rfl,(blk_cell aa.out 2).trans rfl,(blk_cell aa.out 3).trans rfl,(blk_cell aa.out 4).trans rfl,(blk_cell aa.out 5).trans rfl⟩ (fun hHeld => ?_)
          clear hK K
          refine norm_ (a' := ?_) ?_ ?_
          rotate_left
          ·show Act.put _ (some 39) _ = _
           simp only [Act.put,z1_,z2_,z3_,i64_w,i32_w]
           rfl
          exact norm_ (by simp only [putAll,Act.put,z1_,z2_,z3_]) (hCont (bC) _ ⟨hHeld,(rM af.out),(rM ag.out),(rM ah.out),(rM aj.out),(rM ak.out),(rM al.out),(by refine rO ?_;exact Kd.R_mono aq.out (fun _ hk => hk.2)),(by refine rO ?_;exact Kd.R_mono aN.out (fun _ hk => hk.2)),(kM aa.out),(kM ac.out),(kM ad.out),(bG HB.out)⟩)
       rintro bC bV ⟨hS_,cq,cr,ct,cu,cv,cw,cx,cy,cz,cA,bY,bZ⟩
       have bk : Aside0 (Kd.R (Kd.int .i64) 3 bV w.heap.size (fun k_ => some k_ ≠ (.slice aU ap.length aV : Value).ownBlock ∧ some k_ ≠ (.slice aE am.length aF : Value).ownBlock ∧ some k_ ≠ (.slice aJ an.length aL : Value).ownBlock) (.slice aS ao.length aT) ao) := ⟨cq⟩
       have bm : Aside0 (Kd.R (Kd.int .i64) 3 bV w.heap.size (fun k_ => some k_ ≠ (.slice aS ao.length aT : Value).ownBlock ∧ some k_ ≠ (.slice aE am.length aF : Value).ownBlock ∧ some k_ ≠ (.slice aJ an.length aL : Value).ownBlock) (.slice aU ap.length aV) ap) := ⟨cr⟩
       have bn : Aside0 (Kd.R Kd.string 9 bV w.heap.size (fun k_ => some k_ ≠ (.slice aX ar.length aY : Value).ownBlock) (.slice be av.length bf) av) := ⟨ct⟩
       have bo : Aside0 (Kd.R (Kd.int .i64) 3 bV w.heap.size (fun k_ => some k_ ≠ (.slice aS ao.length aT : Value).ownBlock ∧ some k_ ≠ (.slice aU ap.length aV : Value).ownBlock ∧ some k_ ≠ (.slice aJ an.length aL : Value).ownBlock) (.slice aE am.length aF) am) := ⟨cu⟩
       have bp : Aside0 (Kd.R (Kd.int .i64) 3 bV w.heap.size (fun k_ => some k_ ≠ (.slice aS ao.length aT : Value).ownBlock ∧ some k_ ≠ (.slice aU ap.length aV : Value).ownBlock ∧ some k_ ≠ (.slice aE am.length aF : Value).ownBlock) (.slice aJ an.length aL) an) := ⟨cv⟩
       have bq : Aside0 (Kd.R Kd.string 9 bV w.heap.size (fun k_ => some k_ ≠ (.slice be av.length bf : Value).ownBlock) (.slice aX ar.length aY) ar) := ⟨cw⟩
       have br : Aside0 (Kd.R (Kd.int .u8) 5 bV w.heap.size (fun k_ => some k_ ≠ (bC : Value).ownBlock) bQ bH) := ⟨cx⟩
       have bs : Aside0 (Kd.R (Kd.int .u8) 5 bV w.heap.size (fun k_ => some k_ ≠ (bQ : Value).ownBlock) bC bD) := ⟨cy⟩
       have bu : Aside0 (bV.heap[ai]? = some (.cells #[.int .i64 aG,.int .i64 aH,.int .i64 aI,.slice a1 aB.length a2,.slice a3 aC.length a4,.slice a5 aD.length a6] 30 (0,0))) := ⟨cz⟩
       have bv : Aside0 (bV.heap[ae]? = some (.cells #[.int .i64 aM,.int .i64 aO,.int .i64 aP,.slice aS ao.length aT,.slice aU ap.length aV,.slice be av.length bf] 30 (0,0))) := ⟨cA⟩
       have aW : Aside0 (bV.heap[ab]? = some (.cells #[.int .i64 au,.int .i64 aw,.int .i64 ax,.slice aE am.length aF,.slice aJ an.length aL,.slice aX ar.length aY] 30 (0,0))) := ⟨bY⟩
       have bd : Aside0 (Below w.heap.size w bV) := ⟨bZ⟩
       clear af
       clear ag
       clear ah
       clear aj
       clear ak
       clear al
       clear aa
       clear ac
       clear ad
       clear HB
       clear cq cr ct cu cv cw cx cy cz cA bY bZ
       have af := bk
       have ag := bm
       have ah := bn
       have aj := bo
       have ak := bp
       have al := bq
       have aq := br
       have aN := bs
       have aa := bu
       have ac := bv
       have ad := aW
       have HB := bd
       clear bk bm bn bo bp bq br bs bu bv aW bd
       have hHeld : bV.cell? ⟨ai,0,none⟩ = some (.int .i64 aG) ∧ bV.cell? ⟨ai,1,none⟩ = some (.int .i64 aH) ∧ bV.cell? ⟨ai,2,none⟩ = some (.int .i64 aI) ∧ bV.cell? ⟨ai,3,none⟩ = some (.slice a1 aB.length a2) ∧ bV.cell? ⟨ai,4,none⟩ = some (.slice a3 aC.length a4) ∧ bV.cell? ⟨ai,5,none⟩ = some (.slice a5 aD.length a6) := hS_
       refine norm_ (a' := ?_) ?_ ?_
       rotate_left
       ·simp only [putAll,Act.put,z1_,z2_,z3_]
        rfl
       refine pure_ (i := 6) (N := some 43) (v := ?_) (a' := ?_) (bA 18 127) rfl rfl (any_of HT_.out (by kernel_rfl)) (fun _ _ _ h => h) (Or.inl ⟨by rfl,?_⟩) ?_ ?_
       rotate_left
       ·intro w'
        go_simp
        with_reducible rfl
       rotate_left
       ·simp only [Act.put,z1_,z2_,z3_,i64_w,i32_w]
        rfl
       refine pure_ (i := 7) (N := some 44) (v := ?_) (a' := ?_) (bA 18 255) rfl rfl (any_of HT_.out (by kernel_rfl)) (fun _ _ _ h => h) (Or.inl ⟨by rfl,?_⟩) ?_ ?_
       rotate_left
       ·intro w'
        go_simp
        with_reducible rfl
       rotate_left
       ·simp only [Act.put,z1_,z2_,z3_,i64_w,i32_w]
        rfl
       refine pure_ (i := 8) (N := some 45) (v := ?_) (a' := ?_) (bA 18 511) rfl rfl (any_of HT_.out (by kernel_rfl)) (fun _ _ _ h => h) (Or.inl ⟨by rfl,?_⟩) ?_ ?_
       rotate_left
       ·intro w'
        go_simp
        with_reducible rfl
       rotate_left
       ·simp only [Act.put,z1_,z2_,z3_,i64_w,i32_w]
        rfl
       refine pure_ (i := 9) (N := some 46) (v := ?_) (a' := ?_) (bA 18 1023) rfl rfl (any_of HT_.out (by kernel_rfl)) (fun _ _ _ h => h) (Or.inl ⟨by rfl,?_⟩) ?_ ?_
       rotate_left
       ·intro w'
        go_simp
        with_reducible rfl
       rotate_left
       ·simp only [Act.put,z1_,z2_,z3_,i64_w,i32_w]
        rfl
       refine pure_ (i := 10) (N := some 47) (v := ?_) (a' := ?_) (bA 18 2047) rfl rfl (any_of HT_.out (by kernel_rfl)) (fun _ _ _ h => h) (Or.inl ⟨by rfl,?_⟩) ?_ ?_
       rotate_left
       ·intro w'
        go_simp
        with_reducible rfl
       rotate_left
       ·simp only [Act.put,z1_,z2_,z3_,i64_w,i32_w]
        rfl
       refine pure_ (i := 11) (N := some 48) (v := ?_) (a' := ?_) (bA 18 4095) rfl rfl (any_of HT_.out (by kernel_rfl)) (fun _ _ _ h => h) (Or.inl ⟨by rfl,?_⟩) ?_ ?_
       rotate_left
       ·intro w'
        go_simp
        with_reducible rfl
       rotate_left
       ·simp only [Act.put,z1_,z2_,z3_,i64_w,i32_w]
        rfl
       refine pure_ (i := 12) (N := some 49) (v := ?_) (a' := ?_) (bA 18 8191) rfl rfl (any_of HT_.out (by kernel_rfl)) (fun _ _ _ h => h) (Or.inl ⟨by rfl,?_⟩) ?_ ?_
       rotate_left
       ·intro w'
        go_simp
        with_reducible rfl
       rotate_left
       ·simp only [Act.put,z1_,z2_,z3_,i64_w,i32_w]
        rfl
       refine pure_ (i := 13) (N := some 50) (v := undef) (a' := ?_) (bA 18 16383) rfl rfl (any_of HT_.out (by kernel_rfl)) (fun _ _ _ h => h) (Or.inr ⟨by rfl,rfl⟩) ?_ ?_
       rotate_left
       ·simp only [Act.put,z1_,z2_,z3_,i64_w,i32_w]
        rfl
       refine pure_ (i := 14) (N := some 51) (v := undef) (a' := ?_) (bA 18 32767) rfl rfl (any_of HT_.out (by kernel_rfl)) (fun _ _ _ h => h) (Or.inr ⟨by rfl,rfl⟩) ?_ ?_
       rotate_left
       ·simp only [Act.put,z1_,z2_,z3_,i64_w,i32_w]
        rfl
       refine pure_ (i := 15) (N := some 52) (v := undef) (a' := ?_) (bA 18 65535) rfl rfl (any_of HT_.out (by kernel_rfl)) (fun _ _ _ h => h) (Or.inr ⟨by rfl,rfl⟩) ?_ ?_
       rotate_left
       ·simp only [Act.put,z1_,z2_,z3_,i64_w,i32_w]
        rfl
       refine pure_ (i := 16) (N := some 53) (v := ?_) (a' := ?_) (bA 18 131071) rfl rfl (any_of HT_.out (by kernel_rfl)) (fun _ _ _ h => h) (Or.inl ⟨by rfl,?_⟩) ?_ ?_
       rotate_left
       ·intro w'
        go_simp
        with_reducible rfl
       rotate_left
       ·simp only [Act.put,z1_,z2_,z3_,i64_w,i32_w]
        rfl
       refine pure_ (i := 17) (N := some 4) (v := ?_) (a' := ?_) (bA 18 262143) rfl rfl (any_of HT_.out (by kernel_rfl)) (fun _ _ _ h => h) (Or.inl ⟨by rfl,?_⟩) ?_ ?_
       rotate_left
       ·intro w'
        go_simp
        with_reducible rfl
       rotate_left
       ·simp only [Act.put,z1_,z2_,z3_,i64_w,i32_w]
        rfl
       refine done_ (done_of HT_.out (by kernel_rfl)) ?_
       try go_wp2
       go_ret
       exact ⟨by first|rfl|(simp [errW_none,errW_some] <;> rfl)|(simp [*,errW_none,errW_some] <;> rfl),bG HB.out⟩
     ·rw [if_neg cC] at H
      have cR := beq_eq_false_iff_ne.mpr cC
      have cS := bne_iff_ne.mpr cC
      obtain rfl := Option.some.inj H
      try go_wp2_with (first|((with_reducible refine gate_callee (f := 10) rfl ?_);refine gL 29 Tryz.func10 #[.slice A1 l1.length c1] ?_;(with_reducible refine (manifest_Decode.calls kj4 _ _ l1 aM aO aP ao ap av b8 _ ?aQ ?aR dS.out).mono ?_);(case aQ => exact cM (Kd.C_below dg.out HB.out));(case aR => exact dh.out);rintro e ek ⟨dm,dn,dp,rfl,bB,b2,b4,hb⟩;refine ⟨_,rfl,?_⟩;have af := aK (Kd.R_lower bB (below_size (bG HB.out)));have ag := aK (Kd.R_lower b2 (below_size (bG HB.out)));have ah := aK (Kd.R_lower b4 (below_size (bG HB.out)));replace aa := aK (blk_below (kM aa.out) hb);replace HB := aK (below_step (bG HB.out) hb);(try clear hb);(try clear hk);(try clear bB);(try clear b2);(try clear b4))|((with_reducible refine gate_dst (N := 5) rfl ?_);(try (refine gate_guard (by rfl) ?_;dsimp only));refine box_event ?hg (N := 5) ?hd (cs := #[.int .i64 0,.int .i64 0,.int .i64 0,.slice none 0 0,.slice none 0 0,.slice none 0 0]) (t := 30) ?hr ?_;(case hd => rfl);(case hg => rfl);(case hr => first|(go_simp;done)|(go_simp;rfl));intro ae hg el hbox hb;replace af := aK (Kd.R_below (rM af.out) hb);replace ag := aK (Kd.R_below (rM ag.out) hb);replace ah := aK (Kd.R_below (rM ah.out) hb);have ac := aK (hbox);have ca := aK ((by rw [hg];exact (below_size (bG HB.out)) : w.heap.size ≤ ae));have cU := Ge.mk ca.out;have cb := aK ((by rw [hg];exact (below_size (bG HB.out)) : w.heap.size ≤ ae));have cV := Ge.mk cb.out;replace HB := aK (below_step (bG HB.out) hb);have ay := aK (nbL aa.out hg);have bR := aK (nbR aa.out hg);replace aa := aK (blk_below (kM aa.out) hb);clear hb hbox hg;have d0 := bR.out;have d1 := ay.out;obtain ⟨_,_,_,_,_,_,_,_,_,_,_,_⟩ := bk6_ ac.out;obtain ⟨bg,bh,dJ⟩ := Kd.R_slice af.out;subst dJ;obtain ⟨bx,bz,dK⟩ := Kd.R_slice ag.out;subst dK;obtain ⟨bE,bF,dL⟩ := Kd.R_slice ah.out;subst dL)|((with_reducible refine gate_callee (f := 11) rfl ?_);refine gL 34 Tryz.func11 #[.slice A1 l1.length c1] ?_;(with_reducible refine (r33_Decode.calls kj4 _ _ l1 au aw ax am an ar cj _ ?aQ ?aR dT.out).mono ?_);(case aQ => exact Kd.C_below dg.out (bG HB.out));(case aR => exact dh.out);rintro e em ⟨du,dv,dw,rfl,bB,b2,b4,hb⟩;refine ⟨_,rfl,?_⟩;have aj := aK (Kd.R_lower (Kd.R_new' (Kd.R_new' bB (Kd.R_lt (by (with_reducible repeat (first|apply Kd.R_alloc|apply Kd.R_drewN|apply Kd.R_drew));exact (Kd.R_mono (Kd.R_far (p := ⟨ae,5,none⟩) (Kd.R_far (p := ⟨ae,4,none⟩) (Kd.R_far (p := ⟨ae,3,none⟩) (Kd.R_far (p := ⟨ae,2,none⟩) (Kd.R_far (p := ⟨ae,1,none⟩) (Kd.R_far (p := ⟨ae,0,none⟩) (Kd.R_types af.out ac.out (by decide)) (fun _ hk => hk.2) (.int .i64 aM)) (fun _ hk => hk.2) (.int .i64 aO)) (fun _ hk => hk.2) (.int .i64 aP)) (fun _ hk => hk.2) (.slice bg ao.length bh)) (fun _ hk => hk.2) (.slice bx ap.length bz)) (fun _ hk => hk.2) (.slice bE av.length bF)) (fun _ h_ => h_.1))))) (Kd.R_lt (by (with_reducible repeat (first|apply Kd.R_alloc|apply Kd.R_drewN|apply Kd.R_drew));exact (Kd.R_mono (Kd.R_far (p := ⟨ae,5,none⟩) (Kd.R_far (p := ⟨ae,4,none⟩) (Kd.R_far (p := ⟨ae,3,none⟩) (Kd.R_far (p := ⟨ae,2,none⟩) (Kd.R_far (p := ⟨ae,1,none⟩) (Kd.R_far (p := ⟨ae,0,none⟩) (Kd.R_types ag.out ac.out (by decide)) (fun _ hk => hk.2) (.int .i64 aM)) (fun _ hk => hk.2) (.int .i64 aO)) (fun _ hk => hk.2) (.int .i64 aP)) (fun _ hk => hk.2) (.slice bg ao.length bh)) (fun _ hk => hk.2) (.slice bx ap.length bz)) (fun _ hk => hk.2) (.slice bE av.length bF)) (fun _ h_ => h_.1))))) (below_size (bG HB.out)));have ak := aK (Kd.R_lower (Kd.R_new' (Kd.R_new' b2 (Kd.R_lt (by (with_reducible repeat (first|apply Kd.R_alloc|apply Kd.R_drewN|apply Kd.R_drew));exact (Kd.R_mono (Kd.R_far (p := ⟨ae,5,none⟩) (Kd.R_far (p := ⟨ae,4,none⟩) (Kd.R_far (p := ⟨ae,3,none⟩) (Kd.R_far (p := ⟨ae,2,none⟩) (Kd.R_far (p := ⟨ae,1,none⟩) (Kd.R_far (p := ⟨ae,0,none⟩) (Kd.R_types af.out ac.out (by decide)) (fun _ hk => hk.2) (.int .i64 aM)) (fun _ hk => hk.2) (.int .i64 aO)) (fun _ hk => hk.2) (.int .i64 aP)) (fun _ hk => hk.2) (.slice bg ao.length bh)) (fun _ hk => hk.2) (.slice bx ap.length bz)) (fun _ hk => hk.2) (.slice bE av.length bF)) (fun _ h_ => h_.1))))) (Kd.R_lt (by (with_reducible repeat (first|apply Kd.R_alloc|apply Kd.R_drewN|apply Kd.R_drew));exact (Kd.R_mono (Kd.R_far (p := ⟨ae,5,none⟩) (Kd.R_far (p := ⟨ae,4,none⟩) (Kd.R_far (p := ⟨ae,3,none⟩) (Kd.R_far (p := ⟨ae,2,none⟩) (Kd.R_far (p := ⟨ae,1,none⟩) (Kd.R_far (p := ⟨ae,0,none⟩) (Kd.R_types ag.out ac.out (by decide)) (fun _ hk => hk.2) (.int .i64 aM)) (fun _ hk => hk.2) (.int .i64 aO)) (fun _ hk => hk.2) (.int .i64 aP)) (fun _ hk => hk.2) (.slice bg ao.length bh)) (fun _ hk => hk.2) (.slice bx ap.length bz)) (fun _ hk => hk.2) (.slice bE av.length bF)) (fun _ h_ => h_.1))))) (below_size (bG HB.out)));replace af := aK (Kd.R_mono (Kd.R_told (Kd.R_told (Kd.R_old (by (with_reducible repeat (first|apply Kd.R_alloc|apply Kd.R_drewN|apply Kd.R_drew));exact (Kd.R_mono (Kd.R_far (p := ⟨ae,5,none⟩) (Kd.R_far (p := ⟨ae,4,none⟩) (Kd.R_far (p := ⟨ae,3,none⟩) (Kd.R_far (p := ⟨ae,2,none⟩) (Kd.R_far (p := ⟨ae,1,none⟩) (Kd.R_far (p := ⟨ae,0,none⟩) (Kd.R_types af.out ac.out (by decide)) (fun _ hk => hk.2) (.int .i64 aM)) (fun _ hk => hk.2) (.int .i64 aO)) (fun _ hk => hk.2) (.int .i64 aP)) (fun _ hk => hk.2) (.slice bg ao.length bh)) (fun _ hk => hk.2) (.slice bx ap.length bz)) (fun _ hk => hk.2) (.slice bE av.length bF)) (fun _ h_ => h_.1))) hb) (Kd.R_base bB)) (Kd.R_base b2)) (fun _ h_ => h_.1));replace ag := aK (Kd.R_mono (Kd.R_told (Kd.R_told (Kd.R_old (by (with_reducible repeat (first|apply Kd.R_alloc|apply Kd.R_drewN|apply Kd.R_drew));exact (Kd.R_mono (Kd.R_far (p := ⟨ae,5,none⟩) (Kd.R_far (p := ⟨ae,4,none⟩) (Kd.R_far (p := ⟨ae,3,none⟩) (Kd.R_far (p := ⟨ae,2,none⟩) (Kd.R_far (p := ⟨ae,1,none⟩) (Kd.R_far (p := ⟨ae,0,none⟩) (Kd.R_types ag.out ac.out (by decide)) (fun _ hk => hk.2) (.int .i64 aM)) (fun _ hk => hk.2) (.int .i64 aO)) (fun _ hk => hk.2) (.int .i64 aP)) (fun _ hk => hk.2) (.slice bg ao.length bh)) (fun _ hk => hk.2) (.slice bx ap.length bz)) (fun _ hk => hk.2) (.slice bE av.length bF)) (fun _ h_ => h_.1))) hb) (Kd.R_base bB)) (Kd.R_base b2)) (fun _ h_ => h_.1));have al := aK (Kd.R_lower (Kd.R_new' b4 (Kd.R_lt (by (with_reducible repeat (first|apply Kd.R_alloc|apply Kd.R_drewN|apply Kd.R_drew));exact (Kd.R_mono (Kd.R_far (p := ⟨ae,5,none⟩) (Kd.R_far (p := ⟨ae,4,none⟩) (Kd.R_far (p := ⟨ae,3,none⟩) (Kd.R_far (p := ⟨ae,2,none⟩) (Kd.R_far (p := ⟨ae,1,none⟩) (Kd.R_far (p := ⟨ae,0,none⟩) (Kd.R_types ah.out ac.out (by decide)) (fun _ hk => hk.2) (.int .i64 aM)) (fun _ hk => hk.2) (.int .i64 aO)) (fun _ hk => hk.2) (.int .i64 aP)) (fun _ hk => hk.2) (.slice bg ao.length bh)) (fun _ hk => hk.2) (.slice bx ap.length bz)) (fun _ hk => hk.2) (.slice bE av.length bF)) (fun _ h_ => h_.1))))) (below_size (bG HB.out)));replace ah := aK (Kd.R_elder' (by (with_reducible repeat (first|apply Kd.R_alloc|apply Kd.R_drewN|apply Kd.R_drew));exact (Kd.R_mono (Kd.R_far (p := ⟨ae,5,none⟩) (Kd.R_far (p := ⟨ae,4,none⟩) (Kd.R_far (p := ⟨ae,3,none⟩) (Kd.R_far (p := ⟨ae,2,none⟩) (Kd.R_far (p := ⟨ae,1,none⟩) (Kd.R_far (p := ⟨ae,0,none⟩) (Kd.R_types ah.out ac.out (by decide)) (fun _ hk => hk.2) (.int .i64 aM)) (fun _ hk => hk.2) (.int .i64 aO)) (fun _ hk => hk.2) (.int .i64 aP)) (fun _ hk => hk.2) (.slice bg ao.length bh)) (fun _ hk => hk.2) (.slice bx ap.length bz)) (fun _ hk => hk.2) (.slice bE av.length bF)) (fun _ h_ => h_.1))) (Kd.R_base b4) hb);replace aa := aK (blk_below (g := ai) (o := .cells #[.int .i64 aG,.int .i64 aH,.int .i64 aI,.slice a1 aB.length a2,.slice a3 aC.length a4,.slice a5 aD.length a6] 30 (0,0)) (by refine kO ?_;refine blk_far ?_ ay.out _;refine kO ?_;refine blk_far ?_ ay.out _;refine kO ?_;refine blk_far ?_ ay.out _;refine kO ?_;refine blk_far ?_ ay.out _;refine kO ?_;refine blk_far ?_ ay.out _;refine kO ?_;refine blk_far ?_ ay.out _;refine kO ?_;exact aa.out) hb);replace ac := aK (blk_below (g := ae) (o := .cells #[.int .i64 aM,.int .i64 aO,.int .i64 aP,.slice bg ao.length bh,.slice bx ap.length bz,.slice bE av.length bF] 30 (0,0)) (by refine kO ?_;refine blk_put (cs := #[.int .i64 aM,.int .i64 aO,.int .i64 aP,.slice bg ao.length bh,.slice bx ap.length bz,.slice none 0 0]) ?_ 5 _ rfl;refine kO ?_;refine blk_put (cs := #[.int .i64 aM,.int .i64 aO,.int .i64 aP,.slice bg ao.length bh,.slice none 0 0,.slice none 0 0]) ?_ 4 _ rfl;refine kO ?_;refine blk_put (cs := #[.int .i64 aM,.int .i64 aO,.int .i64 aP,.slice none 0 0,.slice none 0 0,.slice none 0 0]) ?_ 3 _ rfl;refine kO ?_;refine blk_put (cs := #[.int .i64 aM,.int .i64 aO,.int .i64 0,.slice none 0 0,.slice none 0 0,.slice none 0 0]) ?_ 2 _ rfl;refine kO ?_;refine blk_put (cs := #[.int .i64 aM,.int .i64 0,.int .i64 0,.slice none 0 0,.slice none 0 0,.slice none 0 0]) ?_ 1 _ rfl;refine kO ?_;refine blk_put (cs := #[.int .i64 0,.int .i64 0,.int .i64 0,.slice none 0 0,.slice none 0 0,.slice none 0 0]) ?_ 0 _ rfl;refine kO ?_;exact ac.out) hb);replace HB := aK (below_step (bG HB.out) hb);(try clear hb);(try clear hk);(try clear bB);(try clear b2);(try clear b4))|((with_reducible refine gate_dst (N := 7) rfl ?_);(try (refine gate_guard (by rfl) ?_;dsimp only));refine box_event ?hg (N := 7) ?hd (cs := #[.int .i64 0,.int .i64 0,.int .i64 0,.slice none 0 0,.slice none 0 0,.slice none 0 0]) (t := 30) ?hr ?_;(case hd => rfl);(case hg => rfl);(case hr => first|(go_simp;done)|(go_simp;rfl));intro ab hg ch hbox hb;replace af := aK (Kd.R_below (rM af.out) hb);replace ag := aK (Kd.R_below (rM ag.out) hb);replace ah := aK (Kd.R_below (rM ah.out) hb);replace aj := aK (Kd.R_below (rM aj.out) hb);replace ak := aK (Kd.R_below (rM ak.out) hb);replace al := aK (Kd.R_below (rM al.out) hb);have ad := aK (hbox);have cd := aK ((by rw [hg];exact (below_size (bG HB.out)) : w.heap.size ≤ ab));have cW := Ge.mk cd.out;have ce := aK ((by rw [hg];exact (below_size (bG HB.out)) : w.heap.size ≤ ab));have cX := Ge.mk ce.out;replace HB := aK (below_step (bG HB.out) hb);have az := aK (nbL aa.out hg);have bS := aK (nbR aa.out hg);replace aa := aK (blk_below (kM aa.out) hb);have aA := aK (nbL ac.out hg);have bT := aK (nbR ac.out hg);replace ac := aK (blk_below (kM ac.out) hb);clear hb hbox hg;have d2 := bS.out;have d3 := az.out;have d4 := bT.out;have d5 := aA.out;obtain ⟨_,_,_,_,_,_,_,_,_,_,_,_⟩ := bk6_ ad.out;obtain ⟨aZ,a0,dM⟩ := Kd.R_slice aj.out;subst dM;obtain ⟨a7,a8,dN⟩ := Kd.R_slice ak.out;subst dN;obtain ⟨bi,bj,dO⟩ := Kd.R_slice al.out;subst dO))
      have bk : Aside0 (Kd.R (Kd.int .i64) 3 ((((((ch.setCell ⟨ab,0,none⟩ (.int .i64 au)).setCell ⟨ab,1,none⟩ (.int .i64 aw)).setCell ⟨ab,2,none⟩ (.int .i64 ax)).setCell ⟨ab,3,none⟩ (.slice aZ am.length a0)).setCell ⟨ab,4,none⟩ (.slice a7 an.length a8)).setCell ⟨ab,5,none⟩ (.slice bi ar.length bj)) w.heap.size (fun k_ => some k_ ≠ (.slice bx ap.length bz : Value).ownBlock ∧ some k_ ≠ (.slice aZ am.length a0 : Value).ownBlock ∧ some k_ ≠ (.slice a7 an.length a8 : Value).ownBlock) (.slice bg ao.length bh) ao) := ⟨by (with_reducible repeat (first|apply Kd.R_alloc|apply Kd.R_drewN|apply Kd.R_drew));exact Kd.R_mono (Kd.R_far (p := ⟨ab,5,none⟩) (Kd.R_far (p := ⟨ab,4,none⟩) (Kd.R_far (p := ⟨ab,3,none⟩) (Kd.R_far (p := ⟨ab,2,none⟩) (Kd.R_far (p := ⟨ab,1,none⟩) (Kd.R_far (p := ⟨ab,0,none⟩) (Kd.R_types af.out ad.out (by decide)) (fun _ hk => hk.2) (.int .i64 au)) (fun _ hk => hk.2) (.int .i64 aw)) (fun _ hk => hk.2) (.int .i64 ax)) (fun _ hk => hk.2) (.slice aZ am.length a0)) (fun _ hk => hk.2) (.slice a7 an.length a8)) (fun _ hk => hk.2) (.slice bi ar.length bj)) (fun _ hk => ⟨hk.1.1.1,⟨hk.1.1.2,hk.1.2⟩⟩)⟩
      have bm : Aside0 (Kd.R (Kd.int .i64) 3 ((((((ch.setCell ⟨ab,0,none⟩ (.int .i64 au)).setCell ⟨ab,1,none⟩ (.int .i64 aw)).setCell ⟨ab,2,none⟩ (.int .i64 ax)).setCell ⟨ab,3,none⟩ (.slice aZ am.length a0)).setCell ⟨ab,4,none⟩ (.slice a7 an.length a8)).setCell ⟨ab,5,none⟩ (.slice bi ar.length bj)) w.heap.size (fun k_ => some k_ ≠ (.slice bg ao.length bh : Value).ownBlock ∧ some k_ ≠ (.slice aZ am.length a0 : Value).ownBlock ∧ some k_ ≠ (.slice a7 an.length a8 : Value).ownBlock) (.slice bx ap.length bz) ap) := ⟨by (with_reducible repeat (first|apply Kd.R_alloc|apply Kd.R_drewN|apply Kd.R_drew));exact Kd.R_mono (Kd.R_far (p := ⟨ab,5,none⟩) (Kd.R_far (p := ⟨ab,4,none⟩) (Kd.R_far (p := ⟨ab,3,none⟩) (Kd.R_far (p := ⟨ab,2,none⟩) (Kd.R_far (p := ⟨ab,1,none⟩) (Kd.R_far (p := ⟨ab,0,none⟩) (Kd.R_types ag.out ad.out (by decide)) (fun _ hk => hk.2) (.int .i64 au)) (fun _ hk => hk.2) (.int .i64 aw)) (fun _ hk => hk.2) (.int .i64 ax)) (fun _ hk => hk.2) (.slice aZ am.length a0)) (fun _ hk => hk.2) (.slice a7 an.length a8)) (fun _ hk => hk.2) (.slice bi ar.length bj)) (fun _ hk => ⟨hk.1.1.1,⟨hk.1.1.2,hk.1.2⟩⟩)⟩
      have bn : Aside0 (Kd.R Kd.string 9 ((((((ch.setCell ⟨ab,0,none⟩ (.int .i64 au)).setCell ⟨ab,1,none⟩ (.int .i64 aw)).setCell ⟨ab,2,none⟩ (.int .i64 ax)).setCell ⟨ab,3,none⟩ (.slice aZ am.length a0)).setCell ⟨ab,4,none⟩ (.slice a7 an.length a8)).setCell ⟨ab,5,none⟩ (.slice bi ar.length bj)) w.heap.size (fun k_ => some k_ ≠ (.slice bi ar.length bj : Value).ownBlock) (.slice bE av.length bF) av) := ⟨by (with_reducible repeat (first|apply Kd.R_alloc|apply Kd.R_drewN|apply Kd.R_drew));exact Kd.R_mono (Kd.R_far (p := ⟨ab,5,none⟩) (Kd.R_far (p := ⟨ab,4,none⟩) (Kd.R_far (p := ⟨ab,3,none⟩) (Kd.R_far (p := ⟨ab,2,none⟩) (Kd.R_far (p := ⟨ab,1,none⟩) (Kd.R_far (p := ⟨ab,0,none⟩) (Kd.R_types ah.out ad.out (by decide)) (fun _ hk => hk.2) (.int .i64 au)) (fun _ hk => hk.2) (.int .i64 aw)) (fun _ hk => hk.2) (.int .i64 ax)) (fun _ hk => hk.2) (.slice aZ am.length a0)) (fun _ hk => hk.2) (.slice a7 an.length a8)) (fun _ hk => hk.2) (.slice bi ar.length bj)) (fun _ hk => hk.1.2)⟩
      have bo : Aside0 (Kd.R (Kd.int .i64) 3 ((((((ch.setCell ⟨ab,0,none⟩ (.int .i64 au)).setCell ⟨ab,1,none⟩ (.int .i64 aw)).setCell ⟨ab,2,none⟩ (.int .i64 ax)).setCell ⟨ab,3,none⟩ (.slice aZ am.length a0)).setCell ⟨ab,4,none⟩ (.slice a7 an.length a8)).setCell ⟨ab,5,none⟩ (.slice bi ar.length bj)) w.heap.size (fun k_ => some k_ ≠ (.slice bg ao.length bh : Value).ownBlock ∧ some k_ ≠ (.slice bx ap.length bz : Value).ownBlock ∧ some k_ ≠ (.slice a7 an.length a8 : Value).ownBlock) (.slice aZ am.length a0) am) := ⟨by (with_reducible repeat (first|apply Kd.R_alloc|apply Kd.R_drewN|apply Kd.R_drew));exact Kd.R_mono (Kd.R_far (p := ⟨ab,5,none⟩) (Kd.R_far (p := ⟨ab,4,none⟩) (Kd.R_far (p := ⟨ab,3,none⟩) (Kd.R_far (p := ⟨ab,2,none⟩) (Kd.R_far (p := ⟨ab,1,none⟩) (Kd.R_far (p := ⟨ab,0,none⟩) (Kd.R_types aj.out ad.out (by decide)) (fun _ hk => hk.2) (.int .i64 au)) (fun _ hk => hk.2) (.int .i64 aw)) (fun _ hk => hk.2) (.int .i64 ax)) (fun _ hk => hk.2) (.slice aZ am.length a0)) (fun _ hk => hk.2) (.slice a7 an.length a8)) (fun _ hk => hk.2) (.slice bi ar.length bj)) (fun _ hk => ⟨hk.1.1.2,⟨hk.1.2,hk.1.1.1⟩⟩)⟩
      have bp : Aside0 (Kd.R (Kd.int .i64) 3 ((((((ch.setCell ⟨ab,0,none⟩ (.int .i64 au)).setCell ⟨ab,1,none⟩ (.int .i64 aw)).setCell ⟨ab,2,none⟩ (.int .i64 ax)).setCell ⟨ab,3,none⟩ (.slice aZ am.length a0)).setCell ⟨ab,4,none⟩ (.slice a7 an.length a8)).setCell ⟨ab,5,none⟩ (.slice bi ar.length bj)) w.heap.size (fun k_ => some k_ ≠ (.slice bg ao.length bh : Value).ownBlock ∧ some k_ ≠ (.slice bx ap.length bz : Value).ownBlock ∧ some k_ ≠ (.slice aZ am.length a0 : Value).ownBlock) (.slice a7 an.length a8) an) := ⟨by (with_reducible repeat (first|apply Kd.R_alloc|apply Kd.R_drewN|apply Kd.R_drew));exact Kd.R_mono (Kd.R_far (p := ⟨ab,5,none⟩) (Kd.R_far (p := ⟨ab,4,none⟩) (Kd.R_far (p := ⟨ab,3,none⟩) (Kd.R_far (p := ⟨ab,2,none⟩) (Kd.R_far (p := ⟨ab,1,none⟩) (Kd.R_far (p := ⟨ab,0,none⟩) (Kd.R_types ak.out ad.out (by decide)) (fun _ hk => hk.2) (.int .i64 au)) (fun _ hk => hk.2) (.int .i64 aw)) (fun _ hk => hk.2) (.int .i64 ax)) (fun _ hk => hk.2) (.slice aZ am.length a0)) (fun _ hk => hk.2) (.slice a7 an.length a8)) (fun _ hk => hk.2) (.slice bi ar.length bj)) (fun _ hk => ⟨hk.1.1.2,⟨hk.1.2,hk.1.1.1⟩⟩)⟩
      have bq : Aside0 (Kd.R Kd.string 9 ((((((ch.setCell ⟨ab,0,none⟩ (.int .i64 au)).setCell ⟨ab,1,none⟩ (.int .i64 aw)).setCell ⟨ab,2,none⟩ (.int .i64 ax)).setCell ⟨ab,3,none⟩ (.slice aZ am.length a0)).setCell ⟨ab,4,none⟩ (.slice a7 an.length a8)).setCell ⟨ab,5,none⟩ (.slice bi ar.length bj)) w.heap.size (fun k_ => some k_ ≠ (.slice bE av.length bF : Value).ownBlock) (.slice bi ar.length bj) ar) := ⟨by (with_reducible repeat (first|apply Kd.R_alloc|apply Kd.R_drewN|apply Kd.R_drew));exact Kd.R_mono (Kd.R_far (p := ⟨ab,5,none⟩) (Kd.R_far (p := ⟨ab,4,none⟩) (Kd.R_far (p := ⟨ab,3,none⟩) (Kd.R_far (p := ⟨ab,2,none⟩) (Kd.R_far (p := ⟨ab,1,none⟩) (Kd.R_far (p := ⟨ab,0,none⟩) (Kd.R_types al.out ad.out (by decide)) (fun _ hk => hk.2) (.int .i64 au)) (fun _ hk => hk.2) (.int .i64 aw)) (fun _ hk => hk.2) (.int .i64 ax)) (fun _ hk => hk.2) (.slice aZ am.length a0)) (fun _ hk => hk.2) (.slice a7 an.length a8)) (fun _ hk => hk.2) (.slice bi ar.length bj)) (fun _ hk => hk.1.2)⟩
      have br : Aside0 (((((((ch.setCell ⟨ab,0,none⟩ (.int .i64 au)).setCell ⟨ab,1,none⟩ (.int .i64 aw)).setCell ⟨ab,2,none⟩ (.int .i64 ax)).setCell ⟨ab,3,none⟩ (.slice aZ am.length a0)).setCell ⟨ab,4,none⟩ (.slice a7 an.length a8)).setCell ⟨ab,5,none⟩ (.slice bi ar.length bj)).heap[ai]? = some (.cells #[.int .i64 aG,.int .i64 aH,.int .i64 aI,.slice a1 aB.length a2,.slice a3 aC.length a4,.slice a5 aD.length a6] 30 (0,0))) := ⟨by refine kO ?_;refine blk_far ?_ az.out _;refine kO ?_;refine blk_far ?_ az.out _;refine kO ?_;refine blk_far ?_ az.out _;refine kO ?_;refine blk_far ?_ az.out _;refine kO ?_;refine blk_far ?_ az.out _;refine kO ?_;refine blk_far ?_ az.out _;refine kO ?_;exact aa.out⟩
      have bs : Aside0 (((((((ch.setCell ⟨ab,0,none⟩ (.int .i64 au)).setCell ⟨ab,1,none⟩ (.int .i64 aw)).setCell ⟨ab,2,none⟩ (.int .i64 ax)).setCell ⟨ab,3,none⟩ (.slice aZ am.length a0)).setCell ⟨ab,4,none⟩ (.slice a7 an.length a8)).setCell ⟨ab,5,none⟩ (.slice bi ar.length bj)).heap[ae]? = some (.cells #[.int .i64 aM,.int .i64 aO,.int .i64 aP,.slice bg ao.length bh,.slice bx ap.length bz,.slice bE av.length bF] 30 (0,0))) := ⟨by refine kO ?_;refine blk_far ?_ aA.out _;refine kO ?_;refine blk_far ?_ aA.out _;refine kO ?_;refine blk_far ?_ aA.out _;refine kO ?_;refine blk_far ?_ aA.out _;refine kO ?_;refine blk_far ?_ aA.out _;refine kO ?_;refine blk_far ?_ aA.out _;refine kO ?_;exact ac.out⟩
      have bu : Aside0 (((((((ch.setCell ⟨ab,0,none⟩ (.int .i64 au)).setCell ⟨ab,1,none⟩ (.int .i64 aw)).setCell ⟨ab,2,none⟩ (.int .i64 ax)).setCell ⟨ab,3,none⟩ (.slice aZ am.length a0)).setCell ⟨ab,4,none⟩ (.slice a7 an.length a8)).setCell ⟨ab,5,none⟩ (.slice bi ar.length bj)).heap[ab]? = some (.cells #[.int .i64 au,.int .i64 aw,.int .i64 ax,.slice aZ am.length a0,.slice a7 an.length a8,.slice bi ar.length bj] 30 (0,0))) := ⟨by refine kO ?_;refine blk_put (cs := #[.int .i64 au,.int .i64 aw,.int .i64 ax,.slice aZ am.length a0,.slice a7 an.length a8,.slice none 0 0]) ?_ 5 _ rfl;refine kO ?_;refine blk_put (cs := #[.int .i64 au,.int .i64 aw,.int .i64 ax,.slice aZ am.length a0,.slice none 0 0,.slice none 0 0]) ?_ 4 _ rfl;refine kO ?_;refine blk_put (cs := #[.int .i64 au,.int .i64 aw,.int .i64 ax,.slice none 0 0,.slice none 0 0,.slice none 0 0]) ?_ 3 _ rfl;refine kO ?_;refine blk_put (cs := #[.int .i64 au,.int .i64 aw,.int .i64 0,.slice none 0 0,.slice none 0 0,.slice none 0 0]) ?_ 2 _ rfl;refine kO ?_;refine blk_put (cs := #[.int .i64 au,.int .i64 0,.int .i64 0,.slice none 0 0,.slice none 0 0,.slice none 0 0]) ?_ 1 _ rfl;refine kO ?_;refine blk_put (cs := #[.int .i64 0,.int .i64 0,.int .i64 0,.slice none 0 0,.slice none 0 0,.slice none 0 0]) ?_ 0 _ rfl;refine kO ?_;exact ad.out⟩
      have bv : Aside0 (Below w.heap.size w ((((((ch.setCell ⟨ab,0,none⟩ (.int .i64 au)).setCell ⟨ab,1,none⟩ (.int .i64 aw)).setCell ⟨ab,2,none⟩ (.int .i64 ax)).setCell ⟨ab,3,none⟩ (.slice aZ am.length a0)).setCell ⟨ab,4,none⟩ (.slice a7 an.length a8)).setCell ⟨ab,5,none⟩ (.slice bi ar.length bj))) := ⟨bG HB.out⟩
      (try clear af)
      (try clear ag)
      (try clear ah)
      (try clear aj)
      (try clear ak)
      (try clear al)
      (try clear aa)
      (try clear ac)
      (try clear ad)
      (try clear HB)
      generalize ((((((ch.setCell ⟨ab,0,none⟩ (.int .i64 au)).setCell ⟨ab,1,none⟩ (.int .i64 aw)).setCell ⟨ab,2,none⟩ (.int .i64 ax)).setCell ⟨ab,3,none⟩ (.slice aZ am.length a0)).setCell ⟨ab,4,none⟩ (.slice a7 an.length a8)).setCell ⟨ab,5,none⟩ (.slice bi ar.length bj)) = w81 at bk bm bn bo bp bq br bs bu bv ⊢
      have af := bk
      have ag := bm
      have ah := bn
      have aj := bo
      have ak := bp
      have al := bq
      have aa := br
      have ac := bs
      have ad := bu
      have HB := bv
      clear bk bm bn bo bp bq br bs bu bv
      have bk := aK (Kd.R_drew af.out)
      have bm := aK (Kd.R_drew ag.out)
      have bn := aK (Kd.R_drew ah.out)
      have bo := aK (Kd.R_drew aj.out)
      have bp := aK (Kd.R_drew ak.out)
      have bq := aK (Kd.R_drew al.out)
      have br := aK (blk_drew aa.out)
      have bs := aK (blk_drew ac.out)
      have bu := aK (blk_drew ad.out)
      have bv := aK (below_drew1 HB.out)
      clear af
      clear ag
      clear ah
      clear aj
      clear ak
      clear al
      clear aa
      clear ac
      clear ad
      clear HB
      have af := bk
      have ag := bm
      have ah := bn
      have aj := bo
      have ak := bp
      have al := bq
      have aa := br
      have ac := bs
      have ad := bu
      have HB := bv
      clear bk bm bn bo bp bq br bs bu bv
      refine start_ (n := 18) (S := fun w' => w'.cell? ⟨ai,0,none⟩ = some (.int .i64 aG) ∧ w'.cell? ⟨ai,1,none⟩ = some (.int .i64 aH) ∧ w'.cell? ⟨ai,2,none⟩ = some (.int .i64 aI) ∧ w'.cell? ⟨ai,3,none⟩ = some (.slice a1 aB.length a2) ∧ w'.cell? ⟨ai,4,none⟩ = some (.slice a3 aC.length a4) ∧ w'.cell? ⟨ai,5,none⟩ = some (.slice a5 aD.length a6)) (ds := []) (bA 18 0) (by kernel_rfl) rfl rfl ⟨(blk_cell aa.out 0).trans rfl,(blk_cell aa.out 1).trans rfl,(blk_cell aa.out 2).trans rfl,(blk_cell aa.out 3).trans rfl,(blk_cell aa.out 4).trans rfl,(blk_cell aa.out 5).trans rfl⟩ (fun hHeld => ?_);refine with_tabW l33_ManifestBytes.tab7 l33_ManifestBytes.bits7 (fun HT_ HW_ => ?_)
      generalize w81.drew = w82 at af ag ah aj ak al aa ac ad HB hHeld ⊢
      refine take_ (i := 0) (N := some 37) (v := ?_) (a' := ?_) (bA 18 1) rfl rfl (take_ofW HT_.out HW_.out (by kernel_rfl)) (fun _ _ _ h => h) (Or.inl ⟨by rfl,?_⟩) hHeld ?_ ?_
      rotate_left
      ·rintro w' ⟨s0,s1,s2,s3,s4,s5⟩
       go_simp
       with_reducible rfl
      rotate_left
      ·simp only [Act.put,z1_,z2_,z3_,i64_w,i32_w]
       rfl
      refine take_ (i := 3) (N := some 40) (v := ?_) (a' := ?_) (bA 18 9) rfl rfl (take_ofW HT_.out HW_.out (by kernel_rfl)) (fun _ _ _ h => h) (Or.inl ⟨by rfl,?_⟩) hHeld ?_ ?_
      rotate_left
      ·rintro w' ⟨s0,s1,s2,s3,s4,s5⟩
       go_simp
       with_reducible rfl
      rotate_left
      ·simp only [Act.put,z1_,z2_,z3_,i64_w,i32_w]
       rfl
      refine one_ (i := 1) (N := some 38) (bA 18 11) rfl rfl (one_of HT_.out (by kernel_rfl)) (by decide) (fun K hK => ?_)
      refine goes_ Tryz.func12 (by kernel_rfl) rfl #[.agg #[.int .i64 aG,.int .i64 aH,.int .i64 aI,.slice a1 aB.length a2,.slice a3 aC.length a4,.slice a5 aD.length a6]] (by rfl) rfl rfl (by (try simp only [z4_,z5_,z6_]);first|done|rfl|(simp only [z7_,z8_];rfl)) ?_
      with_reducible refine (manifest_Encode.calls kj4 aG aH aI _ _ aB _ _ aC _ _ aD bH _ ?aQ ?aR ?a9 ?ba ?bb ?bc dl.out).mono ?_
      (case aQ => exact cM (Kd.C_below bJ.out HB.out))
      (case aR => exact bK.out)
      (case a9 => exact cM (Kd.C_below bL.out HB.out))
      (case ba => exact bN.out)
      (case bb => exact cM (Kd.C_below bO.out HB.out))
      (case bc => exact bP.out)
      rintro e en ⟨bQ,rfl,bB,hb⟩
      refine ⟨_,rfl,?_⟩
      have bk := aK (Kd.R_below (rM af.out) hb)
      have bm := aK (Kd.R_below (rM ag.out) hb)
      have bn := aK (Kd.R_below (rM ah.out) hb)
      have bo := aK (Kd.R_below (rM aj.out) hb)
      have bp := aK (Kd.R_below (rM ak.out) hb)
      have bq := aK (Kd.R_below (rM al.out) hb)
      have br := aK (Kd.R_lower bB (below_size (bG HB.out)))
      have bs := aK (blk_below (kM aa.out) hb)
      have bu := aK (blk_below (kM ac.out) hb)
      have bv := aK (blk_below (kM ad.out) hb)
      have aW := aK (below_step (bG HB.out) hb)
      clear af
      clear ag
      clear ah
      clear aj
      clear ak
      clear al
      clear aa
      clear ac
      clear ad
      clear HB
      have af := bk
      have ag := bm
      have ah := bn
      have aj := bo
      have ak := bp
      have al := bq
      have aq := br
      have aa := bs
      have ac := bu
      have ad := bv
      have HB := aW
      clear bk bm bn bo bp bq br bs bu bv aW
      (try clear hb)
      (try clear hk)
      (try clear bB)
      refine hK.out _ _ ⟨(blk_cell aa.out 0).trans rfl,(blk_cell aa.out 1).trans rfl,(blk_cell aa.out 2).trans rfl,(blk_cell aa.out 3).trans rfl,(blk_cell aa.out 4).trans rfl,(blk_cell aa.out 5).trans rfl⟩ (fun hHeld => ?_)
      clear hK K
      refine norm_ (a' := ?_) ?_ ?_
      rotate_left
      ·show Act.put _ (some 38) _ = _
       simp only [Act.put,z1_,z2_,z3_,i64_w,i32_w]
       rfl
      refine join_ (σ := Value) 12 (bA 18 63) (fun s_ => [(39,.string (strOfNums bH)),(41,s_),(42,.string (strOfNums bD))]) (fun s_ w' => (w'.cell? ⟨ai,0,none⟩ = some (.int .i64 aG) ∧ w'.cell? ⟨ai,1,none⟩ = some (.int .i64 aH) ∧ w'.cell? ⟨ai,2,none⟩ = some (.int .i64 aI) ∧ w'.cell? ⟨ai,3,none⟩ = some (.slice a1 aB.length a2) ∧ w'.cell? ⟨ai,4,none⟩ = some (.slice a3 aC.length a4) ∧ w'.cell? ⟨ai,5,none⟩ = some (.slice a5 aD.length a6)) ∧ (Kd.R (Kd.int .i64) 3 w' w.heap.size (fun k_ => some k_ ≠ (.slice bx ap.length bz : Value).ownBlock ∧ some k_ ≠ (.slice aZ am.length a0 : Value).ownBlock ∧ some k_ ≠ (.slice a7 an.length a8 : Value).ownBlock) (.slice bg ao.length bh) ao) ∧ (Kd.R (Kd.int .i64) 3 w' w.heap.size (fun k_ => some k_ ≠ (.slice bg ao.length bh : Value).ownBlock ∧ some k_ ≠ (.slice aZ am.length a0 : Value).ownBlock ∧ some k_ ≠ (.slice a7 an.length a8 : Value).ownBlock) (.slice bx ap.length bz) ap) ∧ (Kd.R Kd.string 9 w' w.heap.size (fun k_ => some k_ ≠ (.slice bi ar.length bj : Value).ownBlock) (.slice bE av.length bF) av) ∧ (Kd.R (Kd.int .i64) 3 w' w.heap.size (fun k_ => some k_ ≠ (.slice bg ao.length bh : Value).ownBlock ∧ some k_ ≠ (.slice bx ap.length bz : Value).ownBlock ∧ some k_ ≠ (.slice a7 an.length a8 : Value).ownBlock) (.slice aZ am.length a0) am) ∧ (Kd.R (Kd.int .i64) 3 w' w.heap.size (fun k_ => some k_ ≠ (.slice bg ao.length bh : Value).ownBlock ∧ some k_ ≠ (.slice bx ap.length bz : Value).ownBlock ∧ some k_ ≠ (.slice aZ am.length a0 : Value).ownBlock) (.slice a7 an.length a8) an) ∧ (Kd.R Kd.string 9 w' w.heap.size (fun k_ => some k_ ≠ (.slice bE av.length bF : Value).ownBlock) (.slice bi ar.length bj) ar) ∧ (Kd.R (Kd.int .u8) 5 w' w.heap.size (fun k_ => some k_ ≠ (s_ : Value).ownBlock) bQ bH) ∧ (Kd.R (Kd.int .u8) 5 w' w.heap.size (fun k_ => some k_ ≠ (bQ : Value).ownBlock) s_ bD) ∧ (w'.heap[ai]? = some (.cells #[.int .i64 aG,.int .i64 aH,.int .i64 aI,.slice a1 aB.length a2,.slice a3 aC.length a4,.slice a5 aD.length a6] 30 (0,0))) ∧ (w'.heap[ae]? = some (.cells #[.int .i64 aM,.int .i64 aO,.int .i64 aP,.slice bg ao.length bh,.slice bx ap.length bz,.slice bE av.length bF] 30 (0,0))) ∧ (w'.heap[ab]? = some (.cells #[.int .i64 au,.int .i64 aw,.int .i64 ax,.slice aZ am.length a0,.slice a7 an.length a8,.slice bi ar.length bj] 30 (0,0))) ∧ (Below w.heap.size w w')) ?_ ?_
      rotate_left
      ·intro hCont
       refine two_ (i := 2) (j := 4) (Ni := some 39) (Nj := some 41) (bA 18 15) (bA 18 27) rfl rfl rfl rfl (two_of HT_.out (by kernel_rfl)) (by decide) (by decide) (fun K hK => ?_) (fun K hK => ?_)
       ·skip
        have df := own_string (P := Tryz.prog) Tryz.underlying31 Tryz.underlying5 Tryz.underlying9 (Kd.own_of_R aq.out)
        refine value_ (w1 := ?_) (v := ?_) (by rfl) rfl ?_ ?_
        rotate_left 2
        ·go_simp
         constructor
         ·rfl
         ·rfl
        clear df
        refine hK.out _ _ ⟨(blk_cell aa.out 0).trans rfl,(blk_cell aa.out 1).trans rfl,(blk_cell aa.out 2).trans rfl,(blk_cell aa.out 3).trans rfl,(blk_cell aa.out 4).trans rfl,(blk_cell aa.out 5).trans rfl⟩ (fun hHeld => ?_)
        clear hK K
        refine norm_ (a' := ?_) ?_ ?_
        rotate_left
        ·show Act.put _ (some 39) _ = _
         simp only [Act.put,z1_,z2_,z3_,i64_w,i32_w]
         rfl
        refine one_ (i := 4) (N := some 41) (bA 18 31) rfl rfl (one_of HT_.out (by kernel_rfl)) (by decide) (fun K hK => ?_)
        refine goes_ Tryz.func13 (by kernel_rfl) rfl #[.agg #[.int .i64 aG,.int .i64 aH,.int .i64 aI,.slice a1 aB.length a2,.slice a3 aC.length a4,.slice a5 aD.length a6]] (by rfl) rfl rfl (by (try simp only [z4_,z5_,z6_]);first|done|rfl|(simp only [z7_,z8_];rfl)) ?_
        with_reducible refine (r33_Encode.calls kj4 aG aH aI _ _ aB _ _ aC _ _ aD bD _ ?aQ ?aR ?a9 ?ba ?bb ?bc cH.out).mono ?_
        (case aQ => exact cM (Kd.C_below bJ.out HB.out))
        (case aR => exact bK.out)
        (case a9 => exact cM (Kd.C_below bL.out HB.out))
        (case ba => exact bN.out)
        (case bb => exact cM (Kd.C_below bO.out HB.out))
        (case bc => exact bP.out)
        rintro e ep ⟨bC,rfl,bB,hb⟩
        refine ⟨_,rfl,?_⟩
        have bk := aK (Kd.R_below (rM af.out) hb)
        have bm := aK (Kd.R_below (rM ag.out) hb)
        have bn := aK (Kd.R_below (rM ah.out) hb)
        have bo := aK (Kd.R_below (rM aj.out) hb)
        have bp := aK (Kd.R_below (rM ak.out) hb)
        have bq := aK (Kd.R_below (rM al.out) hb)
        have br := aK (Kd.R_elder' (rM aq.out) (Kd.R_base bB) hb)
        have bs := aK (Kd.R_lower (Kd.R_new' bB (Kd.R_lt (rM aq.out))) (below_size (bG HB.out)))
        have bu := aK (blk_below (kM aa.out) hb)
        have bv := aK (blk_below (kM ac.out) hb)
        have aW := aK (blk_below (kM ad.out) hb)
        have bd := aK (below_step (bG HB.out) hb)
        clear af
        clear ag
        clear ah
        clear aj
        clear ak
        clear al
        clear aq
        clear aa
        clear ac
        clear ad
        clear HB
        have af := bk
        have ag := bm
        have ah := bn
        have aj := bo
        have ak := bp
        have al := bq
        have aq := br
        have aN := bs
        have aa := bu
        have ac := bv
        have ad := aW
        have HB := bd
        clear bk bm bn bo bp bq br bs bu bv aW bd
        (try clear hb)
        (try clear hk)
        (try clear bB)
        refine hK.out _ _ ⟨(blk_cell aa.out 0).trans rfl,(blk_cell aa.out 1).trans rfl,(blk_cell aa.out 2).trans rfl,(blk_cell aa.out 3).trans rfl,(blk_cell aa.out 4).trans rfl,(blk_cell aa.out 5).trans rfl⟩ (fun hHeld => ?_)
        clear hK K
        refine norm_ (a' := ?_) ?_ ?_
        rotate_left
        ·show Act.put _ (some 41) _ = _
         simp only [Act.put,z1_,z2_,z3_,i64_w,i32_w]
         rfl
        refine one_ (i := 5) (N := some 42) (bA 18 63) rfl rfl (one_of HT_.out (by kernel_rfl)) (by decide) (fun K hK => ?_)
        have b1 := own_string (P := Tryz.prog) Tryz.underlying31 Tryz.underlying5 Tryz.underlying9 (Kd.own_of_R aN.out)
        refine value_ (w1 := ?_) (v := ?_) (by rfl) rfl ?_ ?_
        rotate_left 2
        ·go_simp
         constructor
         ·rfl
         ·rfl
        clear b1
        refine hK.out _ _ ⟨(blk_cell aa.out 0).trans rfl,(blk_cell aa.out 1).trans rfl,(blk_cell aa.out 2).trans rfl,(blk_cell aa.out 3).trans rfl,(blk_cell aa.out 4).trans rfl,(blk_cell aa.out 5).trans rfl⟩ (fun hHeld => ?_)
        clear hK K
        refine norm_ (a' := ?_) ?_ ?_
        rotate_left
        ·show Act.put _ (some 42) _ = _
         simp only [Act.put,z1_,z2_,z3_,i64_w,i32_w]
         rfl
        exact norm_ (by simp only [putAll,Act.put,z1_,z2_,z3_]) (hCont (bC) _ ⟨hHeld,(rM af.out),(rM ag.out),(rM ah.out),(rM aj.out),(rM ak.out),(rM al.out),(by refine rO ?_;exact Kd.R_mono aq.out (fun _ hk => hk.2)),(by refine rO ?_;exact Kd.R_mono aN.out (fun _ hk => hk.2)),(kM aa.out),(kM ac.out),(kM ad.out),(bG HB.out)⟩)
       ·skip
        refine goes_ Tryz.func13 (by kernel_rfl) rfl #[.agg #[.int .i64 aG,.int .i64 aH,.int .i64 aI,.slice a1 aB.length a2,.slice a3 aC.length a4,.slice a5 aD.length a6]] (by rfl) rfl rfl (by (try simp only [z4_,z5_,z6_]);first|done|rfl|(simp only [z7_,z8_];rfl)) ?_
        with_reducible refine (r33_Encode.calls kj4 aG aH aI _ _ aB _ _ aC _ _ aD bD _ ?aQ ?aR ?a9 ?ba ?bb ?bc cH.out).mono ?_
        (case aQ => exact cM (Kd.C_below bJ.out HB.out))
        (case aR => exact bK.out)
        (case a9 => exact cM (Kd.C_below bL.out HB.out))
        (case ba => exact bN.out)
        (case bb => exact cM (Kd.C_below bO.out HB.out))
        (case bc => exact bP.out)
        rintro e er ⟨bC,rfl,bB,hb⟩
        refine ⟨_,rfl,?_⟩
        have bk := aK (Kd.R_below (rM af.out) hb)
        have bm := aK (Kd.R_below (rM ag.out) hb)
        have bn := aK (Kd.R_below (rM ah.out) hb)
        have bo := aK (Kd.R_below (rM aj.out) hb)
        have bp := aK (Kd.R_below (rM ak.out) hb)
        have bq := aK (Kd.R_below (rM al.out) hb)
        have br := aK (Kd.R_elder' (rM aq.out) (Kd.R_base bB) hb)
        have bs := aK (Kd.R_lower (Kd.R_new' bB (Kd.R_lt (rM aq.out))) (below_size (bG HB.out)))
        have bu := aK (blk_below (kM aa.out) hb)
        have bv := aK (blk_below (kM ac.out) hb)
        have aW := aK (blk_below (kM ad.out) hb)
        have bd := aK (below_step (bG HB.out) hb)
        clear af
        clear ag
        clear ah
        clear aj
        clear ak
        clear al
        clear aq
        clear aa
        clear ac
        clear ad
        clear HB
        have af := bk
        have ag := bm
        have ah := bn
        have aj := bo
        have ak := bp
        have al := bq
        have aq := br
        have aN := bs
        have aa := bu
        have ac := bv
        have ad := aW
        have HB := bd
        clear bk bm bn bo bp bq br bs bu bv aW bd
        (try clear hb)
        (try clear hk)
        (try clear bB)
        refine hK.out _ _ ⟨(blk_cell aa.out 0).trans rfl,(blk_cell aa.out 1).trans rfl,(blk_cell aa.out 2).trans rfl,(blk_cell aa.out 3).trans rfl,(blk_cell aa.out 4).trans rfl,(blk_cell aa.out 5).trans rfl⟩ (fun hHeld => ?_)
        clear hK K
        refine norm_ (a' := ?_) ?_ ?_
        rotate_left
        ·show Act.put _ (some 41) _ = _
         simp only [Act.put,z1_,z2_,z3_,i64_w,i32_w]
         rfl
        refine two_ (i := 2) (j := 5) (Ni := some 39) (Nj := some 42) (bA 18 31) (bA 18 59) rfl rfl rfl rfl (two_of HT_.out (by kernel_rfl)) (by decide) (by decide) (fun K hK => ?_) (fun K hK => ?_)
        ·skip
         have ci := own_string (P := Tryz.prog) Tryz.underlying31 Tryz.underlying5 Tryz.underlying9 (Kd.own_of_R aq.out)
         refine value_ (w1 := ?_) (v := ?_) (by rfl) rfl ?_ ?_
         rotate_left 2
         ·go_simp
          constructor
          ·rfl
          ·rfl
         clear ci
         refine hK.out _ _ ⟨(blk_cell aa.out 0).trans rfl,(blk_cell aa.out 1).trans rfl,(blk_cell aa.out 2).trans rfl,(blk_cell aa.out 3).trans rfl,(blk_cell aa.out 4).trans rfl,(blk_cell aa.out 5).trans rfl⟩ (fun hHeld => ?_)
         clear hK K
         refine norm_ (a' := ?_) ?_ ?_
         rotate_left
         ·show Act.put _ (some 39) _ = _
          simp only [Act.put,z1_,z2_,z3_,i64_w,i32_w]
          rfl
         refine one_ (i := 5) (N := some 42) (bA 18 63) rfl rfl (one_of HT_.out (by kernel_rfl)) (by decide) (fun K hK => ?_)
         have b1 := own_string (P := Tryz.prog) Tryz.underlying31 Tryz.underlying5 Tryz.underlying9 (Kd.own_of_R aN.out)
         refine value_ (w1 := ?_) (v := ?_) (by rfl) rfl ?_ ?_
         rotate_left 2
         ·go_simp
          constructor
          ·rfl
          ·rfl
         clear b1
         refine hK.out _ _ ⟨(blk_cell aa.out 0).trans rfl,(blk_cell aa.out 1).trans rfl,(blk_cell aa.out 2).trans rfl,(blk_cell aa.out 3).trans rfl,(blk_cell aa.out 4).trans rfl,(blk_cell aa.out 5).trans rfl⟩ (fun hHeld => ?_)
         clear hK K
         refine norm_ (a' := ?_) ?_ ?_
         rotate_left
         ·show Act.put _ (some 42) _ = _
          simp only [Act.put,z1_,z2_,z3_,i64_w,i32_w]
          rfl
         exact norm_ (by simp only [putAll,Act.put,z1_,z2_,z3_]) (hCont (bC) _ ⟨hHeld,(rM af.out),(rM ag.out),(rM ah.out),(rM aj.out),(rM ak.out),(rM al.out),(by refine rO ?_;exact Kd.R_mono aq.out (fun _ hk => hk.2)),(by refine rO ?_;exact Kd.R_mono aN.out (fun _ hk => hk.2)),(kM aa.out),(kM ac.out),(kM ad.out),(bG HB.out)⟩)
        ·skip
         have ci := own_string (P := Tryz.prog) Tryz.underlying31 Tryz.underlying5 Tryz.underlying9 (Kd.own_of_R aN.out)
         refine value_ (w1 := ?_) (v := ?_) (by rfl) rfl ?_ ?_
         rotate_left 2
         ·go_simp
          constructor
          ·rfl
          ·rfl
         clear ci
         refine hK.out _ _ ⟨(blk_cell aa.out 0).trans rfl,(blk_cell aa.out 1).trans rfl,(blk_cell aa.out 2).trans rfl,(blk_cell aa.out 3).trans rfl,(blk_cell aa.out 4).trans rfl,(blk_cell aa.out 5).trans rfl⟩ (fun hHeld => ?_)
         clear hK K
         refine norm_ (a' := ?_) ?_ ?_
         rotate_left
         ·show Act.put _ (some 42) _ = _
          simp only [Act.put,z1_,z2_,z3_,i64_w,i32_w]
          rfl
         refine one_ (i := 2) (N := some 39) (bA 18 63) rfl rfl (one_of HT_.out (by kernel_rfl)) (by decide) (fun K hK => ?_)
         have b1 := own_string (P := Tryz.prog) Tryz.underlying31 Tryz.underlying5 Tryz.underlying9 (Kd.own_of_R aq.out)
         refine value_ (w1 := ?_) (v := ?_) (by rfl) rfl ?_ ?_
         rotate_left 2
         ·go_simp
          constructor
          ·rfl
          ·rfl
         clear b1
         refine hK.out _ _ ⟨(blk_cell aa.out 0).trans rfl,(blk_cell aa.out 1).trans rfl,(blk_cell aa.out 2).trans rfl,(blk_cell aa.out 3).trans rfl,(blk_cell aa.out 4).trans rfl,(blk_cell aa.out 5).trans rfl⟩ (fun hHeld => ?_)
         clear hK K
         refine norm_ (a' := ?_) ?_ ?_
         rotate_left
         ·show Act.put _ (some 39) _ = _
          simp only [Act.put,z1_,z2_,z3_,i64_w,i32_w]
          rfl
         exact norm_ (by simp only [putAll,Act.put,z1_,z2_,z3_]) (hCont (bC) _ ⟨hHeld,(rM af.out),(rM ag.out),(rM ah.out),(rM aj.out),(rM ak.out),(rM al.out),(by refine rO ?_;exact Kd.R_mono aq.out (fun _ hk => hk.2)),(by refine rO ?_;exact Kd.R_mono aN.out (fun _ hk => hk.2)),(kM aa.out),(kM ac.out),(kM ad.out),(bG HB.out)⟩)
      rintro bC bW ⟨hS_,cq,cr,ct,cu,cv,cw,cx,cy,cz,cA,bY,bZ⟩
      have bk : Aside0 (Kd.R (Kd.int .i64) 3 bW w.heap.size (fun k_ => some k_ ≠ (.slice bx ap.length bz : Value).ownBlock ∧ some k_ ≠ (.slice aZ am.length a0 : Value).ownBlock ∧ some k_ ≠ (.slice a7 an.length a8 : Value).ownBlock) (.slice bg ao.length bh) ao) := ⟨cq⟩
      have bm : Aside0 (Kd.R (Kd.int .i64) 3 bW w.heap.size (fun k_ => some k_ ≠ (.slice bg ao.length bh : Value).ownBlock ∧ some k_ ≠ (.slice aZ am.length a0 : Value).ownBlock ∧ some k_ ≠ (.slice a7 an.length a8 : Value).ownBlock) (.slice bx ap.length bz) ap) := ⟨cr⟩
      have bn : Aside0 (Kd.R Kd.string 9 bW w.heap.size (fun k_ => some k_ ≠ (.slice bi ar.length bj : Value).ownBlock) (.slice bE av.length bF) av) := ⟨ct⟩
      have bo : Aside0 (Kd.R (Kd.int .i64) 3 bW w.heap.size (fun k_ => some k_ ≠ (.slice bg ao.length bh : Value).ownBlock ∧ some k_ ≠ (.slice bx ap.length bz : Value).ownBlock ∧ some k_ ≠ (.slice a7 an.length a8 : Value).ownBlock) (.slice aZ am.length a0) am) := ⟨cu⟩
      have bp : Aside0 (Kd.R (Kd.int .i64) 3 bW w.heap.size (fun k_ => some k_ ≠ (.slice bg ao.length bh : Value).ownBlock ∧ some k_ ≠ (.slice bx ap.length bz : Value).ownBlock ∧ some k_ ≠ (.slice aZ am.length a0 : Value).ownBlock) (.slice a7 an.length a8) an) := ⟨cv⟩
      have bq : Aside0 (Kd.R Kd.string 9 bW w.heap.size (fun k_ => some k_ ≠ (.slice bE av.length bF : Value).ownBlock) (.slice bi ar.length bj) ar) := ⟨cw⟩
      have br : Aside0 (Kd.R (Kd.int .u8) 5 bW w.heap.size (fun k_ => some k_ ≠ (bC : Value).ownBlock) bQ bH) := ⟨cx⟩
      have bs : Aside0 (Kd.R (Kd.int .u8) 5 bW w.heap.size (fun k_ => some k_ ≠ (bQ : Value).ownBlock) bC bD) := ⟨cy⟩
      have bu : Aside0 (bW.heap[ai]? = some (.cells #[.int .i64 aG,.int .i64 aH,.int .i64 aI,.slice a1 aB.length a2,.slice a3 aC.length a4,.slice a5 aD.length a6] 30 (0,0))) := ⟨cz⟩
      have bv : Aside0 (bW.heap[ae]? = some (.cells #[.int .i64 aM,.int .i64 aO,.int .i64 aP,.slice bg ao.length bh,.slice bx ap.length bz,.slice bE av.length bF] 30 (0,0))) := ⟨cA⟩
      have aW : Aside0 (bW.heap[ab]? = some (.cells #[.int .i64 au,.int .i64 aw,.int .i64 ax,.slice aZ am.length a0,.slice a7 an.length a8,.slice bi ar.length bj] 30 (0,0))) := ⟨bY⟩
      have bd : Aside0 (Below w.heap.size w bW) := ⟨bZ⟩
      clear af
      clear ag
      clear ah
      clear aj
      clear ak
      clear al
      clear aa
      clear ac
      clear ad
      clear HB
      clear cq cr ct cu cv cw cx cy cz cA bY bZ
      have af := bk
      have ag := bm
      have ah := bn
      have aj := bo
      have ak := bp
      have al := bq
      have aq := br
      have aN := bs
      have aa := bu
      have ac := bv
      have ad := aW
      have HB := bd
      clear bk bm bn bo bp bq br bs bu bv aW bd
      have hHeld : bW.cell? ⟨ai,0,none⟩ = some (.int .i64 aG) ∧ bW.cell? ⟨ai,1,none⟩ = some (.int .i64 aH) ∧ bW.cell? ⟨ai,2,none⟩ = some (.int .i64 aI) ∧ bW.cell? ⟨ai,3,none⟩ = some (.slice a1 aB.length a2) ∧ bW.cell? ⟨ai,4,none⟩ = some (.slice a3 aC.length a4) ∧ bW.cell? ⟨ai,5,none⟩ = some (.slice a5 aD.length a6) := hS_
      refine norm_ (a' := ?_) ?_ ?_
      rotate_left
      ·simp only [putAll,Act.put,z1_,z2_,z3_]
       rfl
      refine pure_ (i := 6) (N := some 43) (v := ?_) (a' := ?_) (bA 18 127) rfl rfl (any_of HT_.out (by kernel_rfl)) (fun _ _ _ h => h) (Or.inl ⟨by rfl,?_⟩) ?_ ?_
      rotate_left
      ·intro w'
       go_simp
       with_reducible rfl
      rotate_left
      ·simp only [Act.put,z1_,z2_,z3_,i64_w,i32_w]
       rfl
      refine pure_ (i := 7) (N := some 44) (v := ?_) (a' := ?_) (bA 18 255) rfl rfl (any_of HT_.out (by kernel_rfl)) (fun _ _ _ h => h) (Or.inl ⟨by rfl,?_⟩) ?_ ?_
      rotate_left
      ·intro w'
       go_simp
       with_reducible rfl
      rotate_left
      ·simp only [Act.put,z1_,z2_,z3_,i64_w,i32_w]
       rfl
      refine pure_ (i := 8) (N := some 45) (v := undef) (a' := ?_) (bA 18 511) rfl rfl (any_of HT_.out (by kernel_rfl)) (fun _ _ _ h => h) (Or.inr ⟨by rfl,rfl⟩) ?_ ?_
      rotate_left
      ·simp only [Act.put,z1_,z2_,z3_,i64_w,i32_w]
       rfl
      refine pure_ (i := 9) (N := some 46) (v := undef) (a' := ?_) (bA 18 1023) rfl rfl (any_of HT_.out (by kernel_rfl)) (fun _ _ _ h => h) (Or.inr ⟨by rfl,rfl⟩) ?_ ?_
      rotate_left
      ·simp only [Act.put,z1_,z2_,z3_,i64_w,i32_w]
       rfl
      refine pure_ (i := 10) (N := some 47) (v := undef) (a' := ?_) (bA 18 2047) rfl rfl (any_of HT_.out (by kernel_rfl)) (fun _ _ _ h => h) (Or.inr ⟨by rfl,rfl⟩) ?_ ?_
      rotate_left
      ·simp only [Act.put,z1_,z2_,z3_,i64_w,i32_w]
       rfl
      refine pure_ (i := 11) (N := some 48) (v := ?_) (a' := ?_) (bA 18 4095) rfl rfl (any_of HT_.out (by kernel_rfl)) (fun _ _ _ h => h) (Or.inl ⟨by rfl,?_⟩) ?_ ?_
      rotate_left
      ·intro w'
       go_simp
       with_reducible rfl
      rotate_left
      ·simp only [Act.put,z1_,z2_,z3_,i64_w,i32_w]
       rfl
      refine pure_ (i := 12) (N := some 49) (v := ?_) (a' := ?_) (bA 18 8191) rfl rfl (any_of HT_.out (by kernel_rfl)) (fun _ _ _ h => h) (Or.inl ⟨by rfl,?_⟩) ?_ ?_
      rotate_left
      ·intro w'
       go_simp
       with_reducible rfl
      rotate_left
      ·simp only [Act.put,z1_,z2_,z3_,i64_w,i32_w]
       rfl
      refine pure_ (i := 13) (N := some 50) (v := undef) (a' := ?_) (bA 18 16383) rfl rfl (any_of HT_.out (by kernel_rfl)) (fun _ _ _ h => h) (Or.inr ⟨by rfl,rfl⟩) ?_ ?_
      rotate_left
      ·simp only [Act.put,z1_,z2_,z3_,i64_w,i32_w]
       rfl
      refine pure_ (i := 14) (N := some 51) (v := undef) (a' := ?_) (bA 18 32767) rfl rfl (any_of HT_.out (by kernel_rfl)) (fun _ _ _ h => h) (Or.inr ⟨by rfl,rfl⟩) ?_ ?_
      rotate_left
      ·simp only [Act.put,z1_,z2_,z3_,i64_w,i32_w]
       rfl
      refine pure_ (i := 15) (N := some 52) (v := undef) (a' := ?_) (bA 18 65535) rfl rfl (any_of HT_.out (by kernel_rfl)) (fun _ _ _ h => h) (Or.inr ⟨by rfl,rfl⟩) ?_ ?_
      rotate_left
      ·simp only [Act.put,z1_,z2_,z3_,i64_w,i32_w]
       rfl
      refine pure_ (i := 16) (N := some 53) (v := ?_) (a' := ?_) (bA 18 131071) rfl rfl (any_of HT_.out (by kernel_rfl)) (fun _ _ _ h => h) (Or.inl ⟨by rfl,?_⟩) ?_ ?_
      rotate_left
      ·intro w'
       go_simp
       with_reducible rfl
      rotate_left
      ·simp only [Act.put,z1_,z2_,z3_,i64_w,i32_w]
       rfl
      refine pure_ (i := 17) (N := some 4) (v := ?_) (a' := ?_) (bA 18 262143) rfl rfl (any_of HT_.out (by kernel_rfl)) (fun _ _ _ h => h) (Or.inl ⟨by rfl,?_⟩) ?_ ?_
      rotate_left
      ·intro w'
       go_simp
       with_reducible rfl
      rotate_left
      ·simp only [Act.put,z1_,z2_,z3_,i64_w,i32_w]
       rfl
      refine done_ (done_of HT_.out (by kernel_rfl)) ?_
      try go_wp2
      go_ret
      exact ⟨by first|rfl|(simp [errW_none,errW_some] <;> rfl)|(simp [*,errW_none,errW_some] <;> rfl),bG HB.out⟩
 ·replace c4 := Bool.eq_false_iff.mpr c4
  subst c4
  rw [if_neg (show ¬ (false = true) by decide)] at H
  obtain rfl := Option.some.inj H
  go_enter Tryz.func4,Tryz.ntmps4
  go_wp2_with (first|((with_reducible refine gate_dst (N := 2) rfl ?_);(try (refine gate_guard (by rfl) ?_;dsimp only));refine box_event ?hg (N := 2) ?hd (cs := #[.int .i64 aG,.int .i64 aH,.int .i64 aI,.slice a1 aB.length a2,.slice a3 aC.length a4,.slice a5 aD.length a6]) (t := 30) ?hr ?_;(case hd => rfl);(case hg => rfl);(case hr => first|(go_simp;done)|(go_simp;rfl));intro ai hg es hbox hb;have b5 := aK ((by rw [hg];exact (below_size (bM HB.out)) : w.heap.size ≤ ai));have cI := Ge.mk b5.out;have b6 := aK ((by rw [hg];exact (below_size (bM HB.out)) : w.heap.size ≤ ai));have cJ := Ge.mk b6.out;replace HB := aK (below_step (bM HB.out) hb);clear hb hbox hg)|((with_reducible refine gate_callee (f := 6) rfl ?_);refine gL 9 Tryz.func6 #[] ?_;(with_reducible refine (l33_alive.calls k  false _ A3.out).mono ?_);rintro e et ⟨rfl,hb⟩;refine ⟨_,rfl,?_⟩;replace HB := aK (below_step (bG HB.out) hb);(try clear hb);(try clear hk)))
  go_ret
  exact ⟨by first|rfl|(simp [errW_none,errW_some] <;> rfl)|(simp [*,errW_none,errW_some] <;> rfl),bG HB.out⟩
end Go.Proofs.YtmgliocboeifdaaGreatDoor.F
