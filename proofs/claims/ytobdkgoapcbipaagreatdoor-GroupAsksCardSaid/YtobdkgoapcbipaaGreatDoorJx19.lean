import Derived.Test.YtobdkgoapcbipaaGreatDoorJx0
import Derived.Test.YtobdkgoapcbipaaGreatDoorJx2
import Derived.Test.YtobdkgoapcbipaaGreatDoorJx7
import Derived.Test.YtobdkgoapcbipaaGreatDoorJx11
import Derived.Test.YtobdkgoapcbipaaGreatDoorJx15
import Derived.Test.YtobdkgoapcbipaaGreatDoorJx16
import Derived.Test.YtobdkgoapcbipaaGreatDoorJx18
namespace Go.Proofs.YtobdkgoapcbipaaGreatDoor.J
open Go.RowKit Go.Proofs.YtobdkgoapcbipaaGreatDoorW.PrintWords Go.Proofs.YtobdkgoapcbipaaGreatDoorW.PrintLast Go.Proofs.YtobdkgoapcbipaaGreatDoorW.PrintMore
set_option maxHeartbeats 4000000
set_option maxRecDepth 100000
attribute [local go_sem] max2_int min2_int max_two min_two max_three min_three max_four min_four
set_option linter.unusedVariables false
set_option linter.unusedSimpArgs false

/-! ### r43_Depth: function 22 -/
def r43_Depth.f (k : Nat) (l0 : List (S36)) (a1 : ByteArray) : Option (Int) := (r43_depth.f k l0 a1).bind fun aa => (some aa)
theorem r43_Depth.mono : ∀ a0 a1 k, LeO (r43_Depth.f k a0 a1) (r43_Depth.f (k + 1) a0 a1) := by
 intro a0 a1 k
 unfold r43_Depth.f
 repeat' (with_reducible first|exact r43_depth.mono _ _ _|exact LeO.refl _|exact LeO.none _|refine LeO.ite ?_ ?_|refine LeO.bind ?_ (fun _ => ?_))
theorem r43_Depth.calls (k : Nat) (A0 : Option Addr) (c0 : Nat) (l0 : List (S36)) (a1 : ByteArray) (r : Int) (w : World) (ad : Kd.C k36 w A0 l0.length l0) (ae : l0.length ≤ c0) (h : r43_Depth.f k l0 a1 = some r) :
  Calls Tryz.prog 22 #[.slice A0 l0.length c0,.string a1] w fun e w' => e = .returned (.int .i64 r) ∧ Drawn0 w w' := by
 have ag := aK ad
 have ah := aK ae
 clear ad ae
 have H : ((r43_depth.f k l0 a1).bind fun aa => (some aa)) = some r := h
 clear h
 replace H := Option.bind_eq_some_iff.mp H
 obtain ⟨aa,af,H⟩ := H
 have A3 := aK af
 clear af
 obtain rfl := Option.some.inj H
 go_enter Tryz.func22,Tryz.ntmps22
 go_wp2_with (first|((with_reducible refine gate_callee (f := 40) rfl ?_);refine gL 7 Tryz.func40 #[.slice A0 l0.length c0,.string a1] ?_;(with_reducible refine (r43_depth.calls k _ _ l0 a1 aa _ ?ab ?ac A3.out).mono ?_);(case ab => exact cM ag.out);(case ac => exact ah.out);rintro e w' ⟨rfl,⟨nd,rfl⟩⟩;refine ⟨_,rfl,?_⟩))
 go_ret
 exact ⟨by first|rfl|(simp;done)|(simp [*];done),by repeat (first|exact Drawn0.refl _|apply Drawn0.step)⟩

/-! ### l43_GroupAsks: function 4 -/
def l43_GroupAsks.j0 : Nat → List (S36) → ByteArray → Int → Bool → Option (Bool)
|0,_,_,_,_ => none
|k + 1,x0,x1,x2,ak => if ak = true then (some true) else ((group_Users.f k x0 x1).bind fun aa => ((r43_Users.f k x0 x1).bind fun ab => ((r05_Same.f k aa ab).bind fun ac => (if ac = true then ((group_Of.f k x0 x2).bind fun ad => ((r43_Of.f k x0 x2).bind fun ae => ((r14_SameText.f k ad ae).bind fun af => (if af = true then ((group_In.f k x0 x1 x2).bind fun ag => ((r43_In.f k x0 x1 x2).bind fun ah => (if (ag == ah) = true then ((group_Depth.f k x0 x1).bind fun ai => ((r43_Depth.f k x0 x1).bind fun aj => (some (ai == aj)))) else (some false)))) else (some false))))) else (some false)))))
def l43_GroupAsks.f (k : Nat) (l0 : List (S36)) (a1 : ByteArray) (a2 : Int) : Option (Bool) := (l43_alive.f k).bind fun aa => (if aa = true then ((l43_few.f k l0).bind fun ab => (if ab = true then (if (a1.size : Int) > 100 then (l43_GroupAsks.j0 k l0 a1 a2 true) else ((r43_Right.f k l0).bind fun ac => (l43_GroupAsks.j0 k l0 a1 a2 (ac != 0)))) else (l43_GroupAsks.j0 k l0 a1 a2 true))) else (some false))
theorem l43_GroupAsks.mono_l : ∀ k, (∀ y0 y1 y2 y3, LeO (l43_GroupAsks.j0 k y0 y1 y2 y3) (l43_GroupAsks.j0 (k + 1) y0 y1 y2 y3))
|0 => fun _ _ _ _ r h => by simp [l43_GroupAsks.j0] at h
|k + 1 => by
  have ih0 := l43_GroupAsks.mono_l k
  ·intro y0 y1 y2 y3
   unfold l43_GroupAsks.j0
   repeat' (with_reducible first|exact r05_Same.mono _ _ _|exact r14_SameText.mono _ _ _|exact r43_Depth.mono _ _ _|exact r43_In.mono _ _ _ _|exact r43_Of.mono _ _ _|exact r43_Users.mono _ _ _|exact group_Depth.mono _ _ _|exact group_In.mono _ _ _ _|exact group_Of.mono _ _ _|exact group_Users.mono _ _ _|exact LeO.refl _|exact LeO.none _|refine LeO.ite ?_ ?_|refine LeO.bind ?_ (fun _ => ?_))
theorem l43_GroupAsks.mono : ∀ a0 a1 a2 k, LeO (l43_GroupAsks.f k a0 a1 a2) (l43_GroupAsks.f (k + 1) a0 a1 a2) := by
 intro a0 a1 a2 k
 have ih0 := l43_GroupAsks.mono_l k
 unfold l43_GroupAsks.f
 repeat' (with_reducible first|exact ih0 _ _ _ _|exact l43_alive.mono _|exact l43_few.mono _ _|exact r05_Same.mono _ _ _|exact r14_SameText.mono _ _ _|exact r43_Depth.mono _ _ _|exact r43_In.mono _ _ _ _|exact r43_Of.mono _ _ _|exact r43_Right.mono _ _|exact r43_Users.mono _ _ _|exact group_Depth.mono _ _ _|exact group_In.mono _ _ _ _|exact group_Of.mono _ _ _|exact group_Users.mono _ _ _|exact LeO.refl _|exact LeO.none _|refine LeO.ite ?_ ?_|refine LeO.bind ?_ (fun _ => ?_))
theorem l43_GroupAsks.calls (k : Nat) (A0 : Option Addr) (c0 : Nat) (l0 : List (S36)) (a1 : ByteArray) (a2 : Int) (r : Bool) (w : World) (bJ : Kd.C k36 w A0 l0.length l0) (bK : l0.length ≤ c0) (h : l43_GroupAsks.f k l0 a1 a2 = some r) :
  Calls Tryz.prog 4 #[.slice A0 l0.length c0,.string a1,.int .i64 a2] w fun e w' => e = .returned (.bool r) ∧ Below w.heap.size w w' := by
 have al := aK bJ
 have am := aK bK
 clear bJ bK
 have HB := aK (Below.refl w.heap.size w)
 unfold l43_GroupAsks.f at h
 have H := h
 clear h
 replace H := Option.bind_eq_some_iff.mp H
 obtain ⟨aX,bL,H⟩ := H
 have A4 := aK bL
 clear bL
 by_cases c5 : aX = true
 ·subst c5
  rw [if_pos rfl] at H
  have aY := aK H
  clear H
  go_enter Tryz.func4,Tryz.ntmps4
  go_upto_region 3 with (first|((with_reducible refine gate_callee (f := 9) rfl ?_);refine gL 7 Tryz.func9 #[] ?_;(with_reducible refine (l43_alive.calls k  true _ A4.out).mono ?_);rintro e w7 ⟨rfl,hb⟩;refine ⟨_,rfl,?_⟩;replace HB := aK (below_step (bM HB.out) hb);(try clear hb)))
  (try simp only [Act.put,z1_,z2_,z3_])
  go_cut [21] (fun bR wc => ∃ (kq : Nat) (aq : Bool),bR = .bool aq ∧ Aside0 (l43_GroupAsks.j0 kq l0 a1 a2 aq = some r) ∧ Aside0 (kq ≤ k) ∧ Aside0 (Below w.heap.size w wc))
  case first =>
   have H := aY.out
   clear aY
   replace H := Option.bind_eq_some_iff.mp H
   obtain ⟨aZ,bN,H⟩ := H
   have A8 := aK bN
   clear bN
   by_cases c9 : aZ = true
   ·subst c9
    rw [if_pos rfl] at H
    by_cases c10 : (a1.size : Int) > 100
    ·rw [if_pos c10] at H
     have ap := decide_eq_true c10
     have av : decide (100 < a1.size) = true := decide_eq_true (by omega)
     clear c10
     (first|rw [ap]|(simp only [i64_w,i32_w];rw [ap])|rw [av]|skip)
     have H' := aK H
     clear H
     go_wp2_with (first|((with_reducible refine gate_callee (f := 10) rfl ?_);refine gL 10 Tryz.func10 #[.slice A0 l0.length c0] ?_;(with_reducible refine (l43_few.calls k _ _ l0 true _ ?aa ?ab A8.out).mono ?_);(case aa => exact cM (Kd.C_below al.out HB.out));(case ab => exact am.out);rintro e w' ⟨rfl,⟨nd,rfl⟩⟩;refine ⟨_,rfl,?_⟩))
     go_meet
     case rel => exact ⟨_,(true),(by first|rfl|(simp;done)|(simp [*];done)),H',⟨by first|omega|exact Nat.le_refl _⟩,⟨bM HB.out⟩⟩
    ·rw [if_neg c10] at H
     have ap := decide_eq_false c10
     have av : decide (100 < a1.size) = false := decide_eq_false (by omega)
     clear c10
     (first|rw [ap]|(simp only [i64_w,i32_w];rw [ap])|rw [av]|skip)
     replace H := Option.bind_eq_some_iff.mp H
     obtain ⟨az,aA,H⟩ := H
     have bS := aK aA
     clear aA
     have H' := aK H
     clear H
     go_wp2_with (first|((with_reducible refine gate_callee (f := 10) rfl ?_);refine gL 10 Tryz.func10 #[.slice A0 l0.length c0] ?_;(with_reducible refine (l43_few.calls k _ _ l0 true _ ?aa ?ab A8.out).mono ?_);(case aa => exact cM (Kd.C_below al.out HB.out));(case ab => exact am.out);rintro e w' ⟨rfl,⟨nd,rfl⟩⟩;refine ⟨_,rfl,?_⟩)|(go_at_call 12;(with_reducible refine (r43_Right.calls k _ _ l0 az _ ?aa ?ab bS.out).mono ?_);(case aa => exact Kd.C_below al.out (bM HB.out));(case ab => exact am.out);rintro e b8 ⟨rfl,hb⟩;replace HB := aK (below_step (bM HB.out) hb);(try clear hb)))
     go_meet
     case rel => exact ⟨_,((az != 0)),(by first|rfl|(simp;done)|(simp [*];done)),H',⟨by first|omega|exact Nat.le_refl _⟩,⟨bM HB.out⟩⟩
   ·replace c9 := Bool.eq_false_iff.mpr c9
    subst c9
    rw [if_neg (show ¬ (false = true) by decide)] at H
    have H' := aK H
    clear H
    go_wp2_with (first|((with_reducible refine gate_callee (f := 10) rfl ?_);refine gL 10 Tryz.func10 #[.slice A0 l0.length c0] ?_;(with_reducible refine (l43_few.calls k _ _ l0 false _ ?aa ?ab A8.out).mono ?_);(case aa => exact cM (Kd.C_below al.out HB.out));(case ab => exact am.out);rintro e w' ⟨rfl,⟨nd,rfl⟩⟩;refine ⟨_,rfl,?_⟩))
    go_meet
    case rel => exact ⟨_,(true),(by first|rfl|(simp;done)|(simp [*];done)),H',⟨by first|omega|exact Nat.le_refl _⟩,⟨bM HB.out⟩⟩
  case rest =>
   clear aY
   try clear p2
   try clear c5
   obtain ⟨kq,aq,rfl,HA,b9,HB⟩ := hcut
   cases kq with
  |zero => exact absurd HA.out (by simp [l43_GroupAsks.j0])
  |succ kj5 =>
    have H := HA.out
    clear HA
    simp only [l43_GroupAsks.j0] at H
    by_cases aR : aq = true
    ·subst aR
     rw [if_pos rfl] at H
     obtain rfl := Option.some.inj H
     go_wp2
     go_ret
     exact ⟨by first|rfl|(simp [errW_none,errW_some] <;> rfl)|(simp [*,errW_none,errW_some] <;> rfl),bM HB.out⟩
    ·replace aR := Bool.eq_false_iff.mpr aR
     subst aR
     rw [if_neg (show ¬ (false = true) by decide)] at H
     replace H := Option.bind_eq_some_iff.mp H
     obtain ⟨aj,aB,H⟩ := H
     have aS := aK aB
     clear aB
     replace H := Option.bind_eq_some_iff.mp H
     obtain ⟨ak,aC,H⟩ := H
     have aT := aK aC
     clear aC
     replace H := Option.bind_eq_some_iff.mp H
     obtain ⟨a0,aD,H⟩ := H
     have aU := aK aD
     clear aD
     by_cases aV : a0 = true
     ·subst aV
      rw [if_pos rfl] at H
      replace H := Option.bind_eq_some_iff.mp H
      obtain ⟨ar,aE,H⟩ := H
      have a3 := aK aE
      clear aE
      replace H := Option.bind_eq_some_iff.mp H
      obtain ⟨au,aF,H⟩ := H
      have a4 := aK aF
      clear aF
      replace H := Option.bind_eq_some_iff.mp H
      obtain ⟨a5,aG,H⟩ := H
      have a6 := aK aG
      clear aG
      by_cases aW : a5 = true
      ·subst aW
       rw [if_pos rfl] at H
       replace H := Option.bind_eq_some_iff.mp H
       obtain ⟨an,aH,H⟩ := H
       have bO := aK aH
       clear aH
       replace H := Option.bind_eq_some_iff.mp H
       obtain ⟨ao,aI,H⟩ := H
       have bP := aK aI
       clear aI
       by_cases aw : (an == ao) = true
       ·rw [if_pos aw] at H
        have aJ : (an == ao) = true := aw
        (try (have aL : decide (an = ao) = true := by simpa using aw))
        (try (have aM : (an == ao) = true := by simpa using aw))
        clear aw
        replace H := Option.bind_eq_some_iff.mp H
        obtain ⟨a7,aN,H⟩ := H
        have bT := aK aN
        clear aN
        replace H := Option.bind_eq_some_iff.mp H
        obtain ⟨a8,aO,H⟩ := H
        have bU := aK aO
        clear aO
        obtain rfl := Option.some.inj H
        go_wp2_with (first|((with_reducible refine gate_callee (f := 14) rfl ?_);refine gL 24 Tryz.func14 #[.slice A0 l0.length c0,.string a1] ?_;(with_reducible refine (group_Users.calls kj5 _ _ l0 a1 aj _ ?aa ?ab aS.out).mono ?_);(case aa => exact cM (Kd.C_below al.out HB.out));(case ab => exact am.out);rintro e ca ⟨ax,rfl,ag,hb⟩;refine ⟨_,rfl,?_⟩;have ac := aK (Kd.R_lower ag (below_size (bM HB.out)));replace HB := aK (below_step (bM HB.out) hb);(try clear hb);(try clear ag))|((with_reducible refine gate_callee (f := 15) rfl ?_);refine gL 27 Tryz.func15 #[.slice A0 l0.length c0,.string a1] ?_;(with_reducible refine (r43_Users.calls kj5 _ _ l0 a1 ak _ ?aa ?ab aT.out).mono ?_);(case aa => exact cM (Kd.C_below al.out HB.out));(case ab => exact am.out);rintro e cb ⟨ay,rfl,ag,hb⟩;refine ⟨_,rfl,?_⟩;have ad := aK (Kd.R_lower (Kd.R_new' ag (Kd.R_lt (rM ac.out))) (below_size (bM HB.out)));replace ac := aK (Kd.R_elder' (rM ac.out) (Kd.R_base ag) hb);replace HB := aK (below_step (bM HB.out) hb);(try clear hb);(try clear ag);obtain ⟨a9,ba,bb⟩ := Kd.R_slice ac.out;subst bb;obtain ⟨bc,bd,be⟩ := Kd.R_slice ad.out;subst be)|((with_reducible refine gate_callee (f := 13) rfl ?_);refine gL 28 Tryz.func13 #[.slice a9 aj.length ba,.slice bc ak.length bd] ?_;(with_reducible refine (r05_Same.calls kj5 _ _ aj _ _ ak true _ ?aa ?ab ?ah ?ai aU.out).mono ?_);(case aa => exact cM (Kd.R_reads' ac.out).2.2);(case ab => exact (Kd.R_reads' ac.out).2.1);(case ah => exact cM (Kd.R_reads' ad.out).2.2);(case ai => exact (Kd.R_reads' ad.out).2.1);rintro e w' ⟨rfl,⟨nd,rfl⟩⟩;refine ⟨_,rfl,?_⟩)|(go_at_call 17;(with_reducible refine (group_Of.calls kj5 _ _ l0 a2 ar _ ?aa ?ab a3.out).mono ?_);(case aa => exact Kd.C_below al.out (bM HB.out));(case ab => exact am.out);rintro e cc ⟨aP,rfl,ag,hb⟩;replace ac := aK (Kd.R_below (rM ac.out) hb);replace ad := aK (Kd.R_below (rM ad.out) hb);have ae := aK (Kd.R_lower ag (below_size (bM HB.out)));replace HB := aK (below_step (bM HB.out) hb);(try clear hb);(try clear ag))|(go_at_call 18;(with_reducible refine (r43_Of.calls kj5 _ _ l0 a2 au _ ?aa ?ab a4.out).mono ?_);(case aa => exact cM (Kd.C_below al.out HB.out));(case ab => exact am.out);rintro e cd ⟨aQ,rfl,ag,hb⟩;replace ac := aK (Kd.R_below (rM ac.out) hb);replace ad := aK (Kd.R_below (rM ad.out) hb);have af := aK (Kd.R_lower (Kd.R_new' ag (Kd.R_lt (rM ae.out))) (below_size (bM HB.out)));replace ae := aK (Kd.R_elder' (rM ae.out) (Kd.R_base ag) hb);replace HB := aK (below_step (bM HB.out) hb);(try clear hb);(try clear ag);obtain ⟨bV,bW,bf⟩ := Kd.R_slice ae.out;subst bf;obtain ⟨bX,bY,bg⟩ := Kd.R_slice af.out;subst bg)|(go_at_call 16;(with_reducible refine (r14_SameText.calls kj5 _ _ ar _ _ au true _ ?aa ?ab ?ah ?ai a6.out).mono ?_);(case aa => exact cM (Kd.R_reads' ae.out).2.2);(case ab => exact (Kd.R_reads' ae.out).2.1);(case ah => exact cM (Kd.R_reads' af.out).2.2);(case ai => exact (Kd.R_reads' af.out).2.1);rintro e w' ⟨rfl,⟨nd,rfl⟩⟩)|(go_at_call 19;(with_reducible refine (group_In.calls kj5 _ _ l0 a1 a2 an _ ?aa ?ab bO.out).mono ?_);(case aa => exact Kd.C_below al.out (bM HB.out));(case ab => exact am.out);rintro e ce ⟨rfl,hb⟩;replace ac := aK (Kd.R_below (rM ac.out) hb);replace ad := aK (Kd.R_below (rM ad.out) hb);replace ae := aK (Kd.R_below (rM ae.out) hb);replace af := aK (Kd.R_below (rM af.out) hb);replace HB := aK (below_step (bM HB.out) hb);(try clear hb))|(go_at_call 20;(with_reducible refine (r43_In.calls kj5 _ _ l0 a1 a2 ao _ ?aa ?ab bP.out).mono ?_);(case aa => exact cM (Kd.C_below al.out HB.out));(case ab => exact am.out);rintro e cf ⟨rfl,hb⟩;replace ac := aK (Kd.R_below (rM ac.out) hb);replace ad := aK (Kd.R_below (rM ad.out) hb);replace ae := aK (Kd.R_below (rM ae.out) hb);replace af := aK (Kd.R_below (rM af.out) hb);replace HB := aK (below_step (bM HB.out) hb);(try clear hb))|(go_at_call 21;(with_reducible refine (group_Depth.calls kj5 _ _ l0 a1 a7 _ ?aa ?ab bT.out).mono ?_);(case aa => exact cM (Kd.C_below al.out HB.out));(case ab => exact am.out);rintro e cg ⟨rfl,hb⟩;replace ac := aK (Kd.R_below (rM ac.out) hb);replace ad := aK (Kd.R_below (rM ad.out) hb);replace ae := aK (Kd.R_below (rM ae.out) hb);replace af := aK (Kd.R_below (rM af.out) hb);replace HB := aK (below_step (bM HB.out) hb);(try clear hb))|(go_at_call 22;(with_reducible refine (r43_Depth.calls kj5 _ _ l0 a1 a8 _ ?aa ?ab bU.out).mono ?_);(case aa => exact cM (Kd.C_below al.out HB.out));(case ab => exact am.out);rintro e w' ⟨rfl,⟨nd,rfl⟩⟩))
        go_ret
        exact ⟨by first|rfl|(simp [errW_none,errW_some] <;> rfl)|(simp [*,errW_none,errW_some] <;> rfl),bM HB.out⟩
       ·rw [if_neg aw] at H
        have aJ : (an == ao) = false := by simpa using aw
        (try (have aL : decide (an = ao) = false := by simpa using aw))
        (try (have aM : (an == ao) = false := by simpa using aw))
        (try (have bQ : ¬ (an = ao) := by simpa using aw))
        clear aw
        obtain rfl := Option.some.inj H
        go_wp2_with (first|((with_reducible refine gate_callee (f := 14) rfl ?_);refine gL 24 Tryz.func14 #[.slice A0 l0.length c0,.string a1] ?_;(with_reducible refine (group_Users.calls kj5 _ _ l0 a1 aj _ ?aa ?ab aS.out).mono ?_);(case aa => exact cM (Kd.C_below al.out HB.out));(case ab => exact am.out);rintro e ch ⟨ax,rfl,ag,hb⟩;refine ⟨_,rfl,?_⟩;have ac := aK (Kd.R_lower ag (below_size (bM HB.out)));replace HB := aK (below_step (bM HB.out) hb);(try clear hb);(try clear ag))|((with_reducible refine gate_callee (f := 15) rfl ?_);refine gL 27 Tryz.func15 #[.slice A0 l0.length c0,.string a1] ?_;(with_reducible refine (r43_Users.calls kj5 _ _ l0 a1 ak _ ?aa ?ab aT.out).mono ?_);(case aa => exact cM (Kd.C_below al.out HB.out));(case ab => exact am.out);rintro e ci ⟨ay,rfl,ag,hb⟩;refine ⟨_,rfl,?_⟩;have ad := aK (Kd.R_lower (Kd.R_new' ag (Kd.R_lt (rM ac.out))) (below_size (bM HB.out)));replace ac := aK (Kd.R_elder' (rM ac.out) (Kd.R_base ag) hb);replace HB := aK (below_step (bM HB.out) hb);(try clear hb);(try clear ag);obtain ⟨bh,bi,bj⟩ := Kd.R_slice ac.out;subst bj;obtain ⟨bk,bm,bn⟩ := Kd.R_slice ad.out;subst bn)|((with_reducible refine gate_callee (f := 13) rfl ?_);refine gL 28 Tryz.func13 #[.slice bh aj.length bi,.slice bk ak.length bm] ?_;(with_reducible refine (r05_Same.calls kj5 _ _ aj _ _ ak true _ ?aa ?ab ?ah ?ai aU.out).mono ?_);(case aa => exact cM (Kd.R_reads' ac.out).2.2);(case ab => exact (Kd.R_reads' ac.out).2.1);(case ah => exact cM (Kd.R_reads' ad.out).2.2);(case ai => exact (Kd.R_reads' ad.out).2.1);rintro e w' ⟨rfl,⟨nd,rfl⟩⟩;refine ⟨_,rfl,?_⟩)|(go_at_call 17;(with_reducible refine (group_Of.calls kj5 _ _ l0 a2 ar _ ?aa ?ab a3.out).mono ?_);(case aa => exact Kd.C_below al.out (bM HB.out));(case ab => exact am.out);rintro e cj ⟨aP,rfl,ag,hb⟩;replace ac := aK (Kd.R_below (rM ac.out) hb);replace ad := aK (Kd.R_below (rM ad.out) hb);have ae := aK (Kd.R_lower ag (below_size (bM HB.out)));replace HB := aK (below_step (bM HB.out) hb);(try clear hb);(try clear ag))|(go_at_call 18;(with_reducible refine (r43_Of.calls kj5 _ _ l0 a2 au _ ?aa ?ab a4.out).mono ?_);(case aa => exact cM (Kd.C_below al.out HB.out));(case ab => exact am.out);rintro e ck ⟨aQ,rfl,ag,hb⟩;replace ac := aK (Kd.R_below (rM ac.out) hb);replace ad := aK (Kd.R_below (rM ad.out) hb);have af := aK (Kd.R_lower (Kd.R_new' ag (Kd.R_lt (rM ae.out))) (below_size (bM HB.out)));replace ae := aK (Kd.R_elder' (rM ae.out) (Kd.R_base ag) hb);replace HB := aK (below_step (bM HB.out) hb);(try clear hb);(try clear ag);obtain ⟨bZ,b1,bo⟩ := Kd.R_slice ae.out;subst bo;obtain ⟨b2,b3,bp⟩ := Kd.R_slice af.out;subst bp)|(go_at_call 16;(with_reducible refine (r14_SameText.calls kj5 _ _ ar _ _ au true _ ?aa ?ab ?ah ?ai a6.out).mono ?_);(case aa => exact cM (Kd.R_reads' ae.out).2.2);(case ab => exact (Kd.R_reads' ae.out).2.1);(case ah => exact cM (Kd.R_reads' af.out).2.2);(case ai => exact (Kd.R_reads' af.out).2.1);rintro e w' ⟨rfl,⟨nd,rfl⟩⟩)|(go_at_call 19;(with_reducible refine (group_In.calls kj5 _ _ l0 a1 a2 an _ ?aa ?ab bO.out).mono ?_);(case aa => exact Kd.C_below al.out (bM HB.out));(case ab => exact am.out);rintro e cl ⟨rfl,hb⟩;replace ac := aK (Kd.R_below (rM ac.out) hb);replace ad := aK (Kd.R_below (rM ad.out) hb);replace ae := aK (Kd.R_below (rM ae.out) hb);replace af := aK (Kd.R_below (rM af.out) hb);replace HB := aK (below_step (bM HB.out) hb);(try clear hb))|(go_at_call 20;(with_reducible refine (r43_In.calls kj5 _ _ l0 a1 a2 ao _ ?aa ?ab bP.out).mono ?_);(case aa => exact cM (Kd.C_below al.out HB.out));(case ab => exact am.out);rintro e cm ⟨rfl,hb⟩;replace ac := aK (Kd.R_below (rM ac.out) hb);replace ad := aK (Kd.R_below (rM ad.out) hb);replace ae := aK (Kd.R_below (rM ae.out) hb);replace af := aK (Kd.R_below (rM af.out) hb);replace HB := aK (below_step (bM HB.out) hb);(try clear hb)))
        go_ret
        exact ⟨by first|rfl|(simp [errW_none,errW_some] <;> rfl)|(simp [*,errW_none,errW_some] <;> rfl),bM HB.out⟩
      ·replace aW := Bool.eq_false_iff.mpr aW
       subst aW
       rw [if_neg (show ¬ (false = true) by decide)] at H
       obtain rfl := Option.some.inj H
       go_wp2_with (first|((with_reducible refine gate_callee (f := 14) rfl ?_);refine gL 24 Tryz.func14 #[.slice A0 l0.length c0,.string a1] ?_;(with_reducible refine (group_Users.calls kj5 _ _ l0 a1 aj _ ?aa ?ab aS.out).mono ?_);(case aa => exact cM (Kd.C_below al.out HB.out));(case ab => exact am.out);rintro e cn ⟨ax,rfl,ag,hb⟩;refine ⟨_,rfl,?_⟩;have ac := aK (Kd.R_lower ag (below_size (bM HB.out)));replace HB := aK (below_step (bM HB.out) hb);(try clear hb);(try clear ag))|((with_reducible refine gate_callee (f := 15) rfl ?_);refine gL 27 Tryz.func15 #[.slice A0 l0.length c0,.string a1] ?_;(with_reducible refine (r43_Users.calls kj5 _ _ l0 a1 ak _ ?aa ?ab aT.out).mono ?_);(case aa => exact cM (Kd.C_below al.out HB.out));(case ab => exact am.out);rintro e co ⟨ay,rfl,ag,hb⟩;refine ⟨_,rfl,?_⟩;have ad := aK (Kd.R_lower (Kd.R_new' ag (Kd.R_lt (rM ac.out))) (below_size (bM HB.out)));replace ac := aK (Kd.R_elder' (rM ac.out) (Kd.R_base ag) hb);replace HB := aK (below_step (bM HB.out) hb);(try clear hb);(try clear ag);obtain ⟨bq,br,bs⟩ := Kd.R_slice ac.out;subst bs;obtain ⟨bu,bv,bx⟩ := Kd.R_slice ad.out;subst bx)|((with_reducible refine gate_callee (f := 13) rfl ?_);refine gL 28 Tryz.func13 #[.slice bq aj.length br,.slice bu ak.length bv] ?_;(with_reducible refine (r05_Same.calls kj5 _ _ aj _ _ ak true _ ?aa ?ab ?ah ?ai aU.out).mono ?_);(case aa => exact cM (Kd.R_reads' ac.out).2.2);(case ab => exact (Kd.R_reads' ac.out).2.1);(case ah => exact cM (Kd.R_reads' ad.out).2.2);(case ai => exact (Kd.R_reads' ad.out).2.1);rintro e w' ⟨rfl,⟨nd,rfl⟩⟩;refine ⟨_,rfl,?_⟩)|(go_at_call 17;(with_reducible refine (group_Of.calls kj5 _ _ l0 a2 ar _ ?aa ?ab a3.out).mono ?_);(case aa => exact Kd.C_below al.out (bM HB.out));(case ab => exact am.out);rintro e cp ⟨aP,rfl,ag,hb⟩;replace ac := aK (Kd.R_below (rM ac.out) hb);replace ad := aK (Kd.R_below (rM ad.out) hb);have ae := aK (Kd.R_lower ag (below_size (bM HB.out)));replace HB := aK (below_step (bM HB.out) hb);(try clear hb);(try clear ag))|(go_at_call 18;(with_reducible refine (r43_Of.calls kj5 _ _ l0 a2 au _ ?aa ?ab a4.out).mono ?_);(case aa => exact cM (Kd.C_below al.out HB.out));(case ab => exact am.out);rintro e cq ⟨aQ,rfl,ag,hb⟩;replace ac := aK (Kd.R_below (rM ac.out) hb);replace ad := aK (Kd.R_below (rM ad.out) hb);have af := aK (Kd.R_lower (Kd.R_new' ag (Kd.R_lt (rM ae.out))) (below_size (bM HB.out)));replace ae := aK (Kd.R_elder' (rM ae.out) (Kd.R_base ag) hb);replace HB := aK (below_step (bM HB.out) hb);(try clear hb);(try clear ag);obtain ⟨b4,b5,bz⟩ := Kd.R_slice ae.out;subst bz;obtain ⟨b6,b7,bB⟩ := Kd.R_slice af.out;subst bB)|(go_at_call 16;(with_reducible refine (r14_SameText.calls kj5 _ _ ar _ _ au false _ ?aa ?ab ?ah ?ai a6.out).mono ?_);(case aa => exact cM (Kd.R_reads' ae.out).2.2);(case ab => exact (Kd.R_reads' ae.out).2.1);(case ah => exact cM (Kd.R_reads' af.out).2.2);(case ai => exact (Kd.R_reads' af.out).2.1);rintro e w' ⟨rfl,⟨nd,rfl⟩⟩))
       go_ret
       exact ⟨by first|rfl|(simp [errW_none,errW_some] <;> rfl)|(simp [*,errW_none,errW_some] <;> rfl),bM HB.out⟩
     ·replace aV := Bool.eq_false_iff.mpr aV
      subst aV
      rw [if_neg (show ¬ (false = true) by decide)] at H
      obtain rfl := Option.some.inj H
      go_wp2_with (first|((with_reducible refine gate_callee (f := 14) rfl ?_);refine gL 24 Tryz.func14 #[.slice A0 l0.length c0,.string a1] ?_;(with_reducible refine (group_Users.calls kj5 _ _ l0 a1 aj _ ?aa ?ab aS.out).mono ?_);(case aa => exact cM (Kd.C_below al.out HB.out));(case ab => exact am.out);rintro e cr ⟨ax,rfl,ag,hb⟩;refine ⟨_,rfl,?_⟩;have ac := aK (Kd.R_lower ag (below_size (bM HB.out)));replace HB := aK (below_step (bM HB.out) hb);(try clear hb);(try clear ag))|((with_reducible refine gate_callee (f := 15) rfl ?_);refine gL 27 Tryz.func15 #[.slice A0 l0.length c0,.string a1] ?_;(with_reducible refine (r43_Users.calls kj5 _ _ l0 a1 ak _ ?aa ?ab aT.out).mono ?_);(case aa => exact cM (Kd.C_below al.out HB.out));(case ab => exact am.out);rintro e cs ⟨ay,rfl,ag,hb⟩;refine ⟨_,rfl,?_⟩;have ad := aK (Kd.R_lower (Kd.R_new' ag (Kd.R_lt (rM ac.out))) (below_size (bM HB.out)));replace ac := aK (Kd.R_elder' (rM ac.out) (Kd.R_base ag) hb);replace HB := aK (below_step (bM HB.out) hb);(try clear hb);(try clear ag);obtain ⟨bC,bD,bE⟩ := Kd.R_slice ac.out;subst bE;obtain ⟨bF,bH,bI⟩ := Kd.R_slice ad.out;subst bI)|((with_reducible refine gate_callee (f := 13) rfl ?_);refine gL 28 Tryz.func13 #[.slice bC aj.length bD,.slice bF ak.length bH] ?_;(with_reducible refine (r05_Same.calls kj5 _ _ aj _ _ ak false _ ?aa ?ab ?ah ?ai aU.out).mono ?_);(case aa => exact cM (Kd.R_reads' ac.out).2.2);(case ab => exact (Kd.R_reads' ac.out).2.1);(case ah => exact cM (Kd.R_reads' ad.out).2.2);(case ai => exact (Kd.R_reads' ad.out).2.1);rintro e w' ⟨rfl,⟨nd,rfl⟩⟩;refine ⟨_,rfl,?_⟩))
      go_ret
      exact ⟨by first|rfl|(simp [errW_none,errW_some] <;> rfl)|(simp [*,errW_none,errW_some] <;> rfl),bM HB.out⟩
 ·replace c5 := Bool.eq_false_iff.mpr c5
  subst c5
  rw [if_neg (show ¬ (false = true) by decide)] at H
  obtain rfl := Option.some.inj H
  go_enter Tryz.func4,Tryz.ntmps4
  go_wp2_with (first|((with_reducible refine gate_callee (f := 9) rfl ?_);refine gL 7 Tryz.func9 #[] ?_;(with_reducible refine (l43_alive.calls k  false _ A4.out).mono ?_);rintro e ct ⟨rfl,hb⟩;refine ⟨_,rfl,?_⟩;replace HB := aK (below_step (bM HB.out) hb);(try clear hb)))
  go_ret
  exact ⟨by first|rfl|(simp [errW_none,errW_some] <;> rfl)|(simp [*,errW_none,errW_some] <;> rfl),bM HB.out⟩
end Go.Proofs.YtobdkgoapcbipaaGreatDoor.J
