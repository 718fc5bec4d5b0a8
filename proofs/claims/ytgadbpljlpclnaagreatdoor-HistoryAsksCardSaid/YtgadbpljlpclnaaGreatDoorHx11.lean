import Derived.Test.YtgadbpljlpclnaaGreatDoorHx0
import Derived.Test.YtgadbpljlpclnaaGreatDoorHx10
namespace Go.Proofs.YtgadbpljlpclnaaGreatDoor.H
open Go.RowKit Go.Proofs.YtgadbpljlpclnaaGreatDoorW.PrintWords Go.Proofs.YtgadbpljlpclnaaGreatDoorW.PrintLast Go.Proofs.YtgadbpljlpclnaaGreatDoorW.PrintMore
set_option maxHeartbeats 4000000
set_option maxRecDepth 100000
attribute [local go_sem] max2_int min2_int max_two min_two max_three min_three max_four min_four
set_option linter.unusedVariables false
set_option linter.unusedSimpArgs false

/-! ### tree_Right: function 55 -/
mutual
def tree_Right.l0 : Nat → List (S55) → List (S55) → Int → Int → Option (Int)
|0,_,_,_,_ => none
|k + 1,x0,ab,ac,aa => if aa < ac then (if 0 ≤ aa then (if aa < (ab.length : Int) then ((glob_ValidPath.f k ((rd_T55 ab aa).f0)).bind fun ad => (if ad = true then (if ((rd_T55 ab aa).f1) < 1 then (tree_Right.j1 k x0 aa ab ac aa true ((rd_T55 ab aa).f0) ((rd_T55 ab aa).f1)) else (tree_Right.j1 k x0 aa ab ac aa (decide (((rd_T55 ab aa).f1) > 9999)) ((rd_T55 ab aa).f0) ((rd_T55 ab aa).f1))) else (some 3))) else (none)) else (none)) else (some 0)
def tree_Right.j2 : Nat → List (S55) → Int → List (S55) → Int → Int → ByteArray → Int → Option (Int)
|0,_,_,_,_,_,_,_ => none
|k + 1,x0,x3,ac,ad,ae,aa,ab => tree_Right.l1 k x0 x3 ac ad ae x0 (x0.length : Int) 0 aa ab
def tree_Right.l1 : Nat → List (S55) → Int → List (S55) → Int → Int → List (S55) → Int → Int → ByteArray → Int → Option (Int)
|0,_,_,_,_,_,_,_,_,_,_ => none
|k + 1,x0,x3,ae,af,ag,ad,ah,ac,aa,ab => if ac < ah then (if 0 ≤ ac then (if ac < (ad.length : Int) then (if ac = x3 then (tree_Right.l1 k x0 x3 ae af ag ad ah (wrap64 (ac + 1)) aa ab) else ((glob_Under.f aa ((rd_T55 ad ac).f0)).bind fun ai => (if ai = true then (some 14) else (tree_Right.l1 k x0 x3 ae af ag ad ah (wrap64 (ac + 1)) aa ab)))) else (none)) else (none)) else (tree_Right.l0 k x0 ae af (wrap64 (ag + 1)))
def tree_Right.j1 : Nat → List (S55) → Int → List (S55) → Int → Int → Bool → ByteArray → Int → Option (Int)
|0,_,_,_,_,_,_,_,_ => none
|k + 1,x0,x3,ac,ad,ae,af,aa,ab => if af = true then (some 2) else (if x3 > 0 then (if 0 ≤ (wrap64 (x3 - 1)) then (if (wrap64 (x3 - 1)) < (x0.length : Int) then (if ((Op.bytesLess (((rd_T55 x0 (wrap64 (x3 - 1))).f0).toList) aa.toList) = true) then (tree_Right.j2 k x0 x3 ac ad ae aa ab) else (some 7)) else (none)) else (none)) else (tree_Right.j2 k x0 x3 ac ad ae aa ab))
end
def tree_Right.f (k : Nat) (l0 : List (S55)) : Option (Int) := if (l0.length : Int) > 32 then (some 4) else (tree_Right.l0 k l0 l0 (l0.length : Int) 0)
theorem tree_Right.mono_l : ∀ k, (∀ y0 y1 y2 y3, LeO (tree_Right.l0 k y0 y1 y2 y3) (tree_Right.l0 (k + 1) y0 y1 y2 y3)) ∧ (∀ y0 y1 y2 y3 y4 y5 y6, LeO (tree_Right.j2 k y0 y1 y2 y3 y4 y5 y6) (tree_Right.j2 (k + 1) y0 y1 y2 y3 y4 y5 y6)) ∧ (∀ y0 y1 y2 y3 y4 y5 y6 y7 y8 y9, LeO (tree_Right.l1 k y0 y1 y2 y3 y4 y5 y6 y7 y8 y9) (tree_Right.l1 (k + 1) y0 y1 y2 y3 y4 y5 y6 y7 y8 y9)) ∧ (∀ y0 y1 y2 y3 y4 y5 y6 y7, LeO (tree_Right.j1 k y0 y1 y2 y3 y4 y5 y6 y7) (tree_Right.j1 (k + 1) y0 y1 y2 y3 y4 y5 y6 y7))
|0 => ⟨fun _ _ _ _ r h => by simp [tree_Right.l0] at h,fun _ _ _ _ _ _ _ r h => by simp [tree_Right.j2] at h,fun _ _ _ _ _ _ _ _ _ _ r h => by simp [tree_Right.l1] at h,fun _ _ _ _ _ _ _ _ r h => by simp [tree_Right.j1] at h⟩
|k + 1 => by
  obtain ⟨ih0,ih1,ih2,ih3⟩ := tree_Right.mono_l k
  refine ⟨?_,?_,?_,?_⟩
  ·intro y0 y1 y2 y3
   unfold tree_Right.l0
   repeat' (with_reducible first|exact ih3 _ _ _ _ _ _ _ _|exact glob_ValidPath.mono _ _|exact LeO.refl _|exact LeO.none _|refine LeO.ite ?_ ?_|refine LeO.bind ?_ (fun _ => ?_))
  ·intro y0 y1 y2 y3 y4 y5 y6
   unfold tree_Right.j2
   repeat' (with_reducible first|exact ih2 _ _ _ _ _ _ _ _ _ _|exact LeO.refl _|exact LeO.none _|refine LeO.ite ?_ ?_|refine LeO.bind ?_ (fun _ => ?_))
  ·intro y0 y1 y2 y3 y4 y5 y6 y7 y8 y9
   unfold tree_Right.l1
   repeat' (with_reducible first|exact ih0 _ _ _ _|exact ih2 _ _ _ _ _ _ _ _ _ _|exact LeO.refl _|exact LeO.none _|refine LeO.ite ?_ ?_|refine LeO.bind ?_ (fun _ => ?_))
  ·intro y0 y1 y2 y3 y4 y5 y6 y7
   unfold tree_Right.j1
   repeat' (with_reducible first|exact ih1 _ _ _ _ _ _ _|exact LeO.refl _|exact LeO.none _|refine LeO.ite ?_ ?_|refine LeO.bind ?_ (fun _ => ?_))
theorem tree_Right.mono : ∀ a0 k, LeO (tree_Right.f k a0) (tree_Right.f (k + 1) a0) := by
 intro a0 k
 obtain ⟨ih0,ih1,ih2,ih3⟩ := tree_Right.mono_l k
 unfold tree_Right.f
 repeat' (with_reducible first|exact ih0 _ _ _ _|exact ih1 _ _ _ _ _ _ _|exact ih2 _ _ _ _ _ _ _ _ _ _|exact ih3 _ _ _ _ _ _ _ _|exact glob_ValidPath.mono _ _|exact LeO.refl _|exact LeO.none _|refine LeO.ite ?_ ?_|refine LeO.bind ?_ (fun _ => ?_))
theorem tree_Right.calls (k : Nat) (A0 : Option Addr) (c0 : Nat) (l0 : List (S55)) (r : Int) (w : World) (bX : Kd.C k55 w A0 l0.length l0) (bY : l0.length ≤ c0) (h : tree_Right.f k l0 = some r) :
  Calls Tryz.prog 55 #[.slice A0 l0.length c0] w fun e w' => e = .returned (.int .i64 r) ∧ Below w.heap.size w w' := by
 have ce := Tryz.underlying55
 have bq := aK bX
 have ci := aK bY
 clear bX bY
 have HB := aK (Below.refl w.heap.size w)
 have H : (if (l0.length : Int) > 32 then (some 4) else (tree_Right.l0 k l0 l0 (l0.length : Int) 0)) = some r := h
 clear h
 by_cases c2 : (l0.length : Int) > 32
 ·rw [if_pos c2] at H
  have bC := decide_eq_true c2
  have bD : decide (32 < l0.length) = true := decide_eq_true (by omega)
  clear c2
  obtain rfl := Option.some.inj H
  go_enter Tryz.func55,Tryz.ntmps55
  go_wp2
  repeat (go_quiet (fail);try go_wp2)
  go_ret
  exact ⟨by first|rfl|(simp [errW_none,errW_some] <;> rfl)|(simp [*,errW_none,errW_some] <;> rfl),bM HB.out⟩
 ·rw [if_neg c2] at H
  have bC := decide_eq_false c2
  have bD : decide (32 < l0.length) = false := decide_eq_false (by omega)
  clear c2
  have H' := aK H
  clear H
  go_enter Tryz.func55,Tryz.ntmps55
  go_wp2
  repeat (go_quiet (fail);try go_wp2)
  go_loopg [12] k (fun kq cf w' => ∃ (ab : Int),cf = .int .i64 ab ∧ Aside0 (tree_Right.l0 kq l0 l0 (l0.length : Int) ab = some r) ∧ Aside0 (kq ≤ k) ∧ Aside0 (Below w.heap.size w w'))
  case atStart => exact ⟨(0),(by first|rfl|(simp;done)|(simp [*];done)),H',⟨Nat.le_refl _⟩,⟨bM HB.out⟩⟩
  case round =>
   clear H'
   try clear c2
   try clear bC
   try clear bD
   try clear p2
   obtain ⟨ab,rfl,HA,a9,HB⟩ := hrel
   cases gk with
  |zero => exact absurd HA.out (by simp [tree_Right.l0])
  |succ k1 =>
    have H := HA.out
    clear HA
    simp only [tree_Right.l0] at H
    by_cases c3 : ab < (l0.length : Int)
    ·rw [if_pos c3] at H
     have bE := decide_eq_true c3
     clear c3
     obtain ⟨c4,H⟩ := iS H
     have bQ := decide_eq_true c4
     clear c4
     obtain ⟨c5,H⟩ := iS H
     have bR := decide_eq_true c5
     clear c5
     have bS := aK H
     clear H
     have a5 : 0 ≤ (ab : Int) := dA
     have a6 : ab < (l0.length : Int) := dA
     obtain ⟨aA,bT,ao,ap⟩ := at_T55 bq.out ab a5 a6
     cases bT
     replace ao := xM HB ao
     replace ap := xM HB ap
     replace a5 := eq_true a5
     replace a6 := eq_true a6
     go_upto_block 2 with (first|((with_reducible refine gate_dst (N := 4) rfl ?_);refine box_event ?hg (N := 4) ?hd (cs := #[.string (⟨#[]⟩ : ByteArray),.int .i64 0]) (t := 55) ?hr ?_;(case hd => rfl);(case hg => rfl);(case hr => first|(go_simp;done)|(go_simp;rfl));intro ag hg w7 hbox hb;have aa := aK (hbox);have aB := aK ((by rw [hg];exact (below_size (bM HB.out)) : w.heap.size ≤ ag));have be := Ge.mk aB.out;have aC := aK ((by rw [hg];exact (below_size (bM HB.out)) : w.heap.size ≤ ag));have bf := Ge.mk aC.out;replace HB := aK (below_step (bM HB.out) hb);clear hb hbox hg;obtain ⟨aF,aG,aH,aI⟩ := bk2_ aa.out))
     repeat (go_quiet (first|((with_reducible refine gate_dst (N := 4) rfl ?_);refine box_event ?hg (N := 4) ?hd (cs := #[.string (⟨#[]⟩ : ByteArray),.int .i64 0]) (t := 55) ?hr ?_;(case hd => rfl);(case hg => rfl);(case hr => first|(go_simp;done)|(go_simp;rfl));intro ag hg w7 hbox hb;have aa := aK (hbox);have aB := aK ((by rw [hg];exact (below_size (bM HB.out)) : w.heap.size ≤ ag));have be := Ge.mk aB.out;have aC := aK ((by rw [hg];exact (below_size (bM HB.out)) : w.heap.size ≤ ag));have bf := Ge.mk aC.out;replace HB := aK (below_step (bM HB.out) hb);clear hb hbox hg;obtain ⟨aF,aG,aH,aI⟩ := bk2_ aa.out));go_upto_block 2 with (first|((with_reducible refine gate_dst (N := 4) rfl ?_);refine box_event ?hg (N := 4) ?hd (cs := #[.string (⟨#[]⟩ : ByteArray),.int .i64 0]) (t := 55) ?hr ?_;(case hd => rfl);(case hg => rfl);(case hr => first|(go_simp;done)|(go_simp;rfl));intro ag hg w7 hbox hb;have aa := aK (hbox);have aB := aK ((by rw [hg];exact (below_size (bM HB.out)) : w.heap.size ≤ ag));have be := Ge.mk aB.out;have aC := aK ((by rw [hg];exact (below_size (bM HB.out)) : w.heap.size ≤ ag));have bf := Ge.mk aC.out;replace HB := aK (below_step (bM HB.out) hb);clear hb hbox hg;obtain ⟨aF,aG,aH,aI⟩ := bk2_ aa.out)))
     (try simp only [Act.put,z1_,z2_,z3_])
     go_cut [] (fun wc => ∃ (kq : Nat),Aside0 (tree_Right.j2 kq l0 ab l0 (l0.length : Int) ab ((rd_T55 l0 ab).f0) ((rd_T55 l0 ab).f1) = some r) ∧ Aside0 (kq ≤ k1) ∧ Aside0 (wc.heap[ag]? = some (.cells #[.string ((rd_T55 l0 ab).f0),.int .i64 ((rd_T55 l0 ab).f1)] 55 (0,0))) ∧ Aside0 (Below w.heap.size w wc))
     case first =>
      have H := bS.out
      clear bS
      replace H := Option.bind_eq_some_iff.mp H
      obtain ⟨bU,bZ,H⟩ := H
      have A9 := aK bZ
      clear bZ
      by_cases c10 : bU = true
      ·subst c10
       rw [if_pos rfl] at H
       have bn := aK H
       clear H
       obtain ⟨ba,bb,bc,bd⟩ := bk2_ aa.out
       go_upto_region 8 with (first|(go_at_call 65;(with_reducible refine (glob_ValidPath.calls k1 ((rd_T55 l0 ab).f0) true _ A9.out).mono ?_);rintro e b1 ⟨rfl,hb⟩;replace aa := aK (blk_below (g := ag) (o := .cells #[.string ((rd_T55 l0 ab).f0),.int .i64 ((rd_T55 l0 ab).f1)] 55 (0,0)) (by refine kO ?_;refine blk_put (cs := #[.string ((rd_T55 l0 ab).f0),.int .i64 0]) ?_ 1 _ rfl;refine kO ?_;refine blk_put (cs := #[.string (⟨#[]⟩ : ByteArray),.int .i64 0]) ?_ 0 _ rfl;refine kO ?_;exact aa.out) hb);replace HB := aK (below_step (bG HB.out) hb);(try clear hb)))
       repeat (go_quiet (first|(go_at_call 65;(with_reducible refine (glob_ValidPath.calls k1 ((rd_T55 l0 ab).f0) true _ A9.out).mono ?_);rintro e b1 ⟨rfl,hb⟩;replace aa := aK (blk_below (g := ag) (o := .cells #[.string ((rd_T55 l0 ab).f0),.int .i64 ((rd_T55 l0 ab).f1)] 55 (0,0)) (by refine kO ?_;refine blk_put (cs := #[.string ((rd_T55 l0 ab).f0),.int .i64 0]) ?_ 1 _ rfl;refine kO ?_;refine blk_put (cs := #[.string (⟨#[]⟩ : ByteArray),.int .i64 0]) ?_ 0 _ rfl;refine kO ?_;exact aa.out) hb);replace HB := aK (below_step (bG HB.out) hb);(try clear hb)));go_upto_region 8 with (first|(go_at_call 65;(with_reducible refine (glob_ValidPath.calls k1 ((rd_T55 l0 ab).f0) true _ A9.out).mono ?_);rintro e b1 ⟨rfl,hb⟩;replace aa := aK (blk_below (g := ag) (o := .cells #[.string ((rd_T55 l0 ab).f0),.int .i64 ((rd_T55 l0 ab).f1)] 55 (0,0)) (by refine kO ?_;refine blk_put (cs := #[.string ((rd_T55 l0 ab).f0),.int .i64 0]) ?_ 1 _ rfl;refine kO ?_;refine blk_put (cs := #[.string (⟨#[]⟩ : ByteArray),.int .i64 0]) ?_ 0 _ rfl;refine kO ?_;exact aa.out) hb);replace HB := aK (below_step (bG HB.out) hb);(try clear hb))))
       (try simp only [Act.put,z1_,z2_,z3_])
       go_cut [22] (fun cg wc => ∃ (kq : Nat) (ax : Bool),cg = .bool ax ∧ Aside0 (tree_Right.j1 kq l0 ab l0 (l0.length : Int) ab ax ((rd_T55 l0 ab).f0) ((rd_T55 l0 ab).f1) = some r) ∧ Aside0 (kq ≤ k1) ∧ Aside0 (wc.heap[ag]? = some (.cells #[.string ((rd_T55 l0 ab).f0),.int .i64 ((rd_T55 l0 ab).f1)] 55 (0,0))) ∧ Aside0 (Below w.heap.size w wc))
       case first =>
        have H := bn.out
        clear bn
        by_cases br : ((rd_T55 l0 ab).f1) < 1
        ·rw [if_pos br] at H
         have aD := decide_eq_true br
         clear br
         (first|rw [aD]|(simp only [i64_w,i32_w];rw [aD])|rw [c14b1]|skip)
         have H' := aK H
         clear H
         obtain ⟨_,_,_,_⟩ := bk2_ aa.out
         go_wp2
         repeat (go_quiet (fail);try go_wp2)
         go_meet
         case rel => exact ⟨_,(true),(by first|rfl|(simp;done)|(simp [*];done)),H',⟨by have := a9.out;first|omega|exact Nat.le_refl _⟩,⟨kM aa.out⟩,⟨bG HB.out⟩⟩
        ·rw [if_neg br] at H
         have aD := decide_eq_false br
         clear br
         (first|rw [aD]|(simp only [i64_w,i32_w];rw [aD])|rw [c14b1]|skip)
         have H' := aK H
         clear H
         obtain ⟨_,_,_,_⟩ := bk2_ aa.out
         go_wp2
         repeat (go_quiet (fail);try go_wp2)
         go_meet
         case rel => exact ⟨_,(decide (((rd_T55 l0 ab).f1) > 9999)),(by first|rfl|(simp;done)|(simp [*];done)),H',⟨by have := a9.out;first|omega|exact Nat.le_refl _⟩,⟨kM aa.out⟩,⟨bG HB.out⟩⟩
       case rest =>
        clear bn
        try clear p1
        try clear q1
        try clear hx1
        try clear p2
        try clear c3
        try clear bE
        try clear c4
        try clear bQ
        try clear c5
        try clear bR
        try clear c10
        try clear ba
        try clear bb
        try clear aF
        try clear aG
        try clear bc
        try clear bd
        try clear aH
        try clear aI
        try clear ao
        try clear ap
        try clear a5
        try clear p2
        try clear a6
        obtain ⟨kq,ax,rfl,HA,bF,aa,HB⟩ := hcut
        cases kq with
       |zero => exact absurd HA.out (by simp [tree_Right.j1])
       |succ kj10 =>
         have H := HA.out
         clear HA
         simp only [tree_Right.j1] at H
         by_cases bO : ax = true
         ·subst bO
          rw [if_pos rfl] at H
          obtain rfl := Option.some.inj H
          go_wp2
          repeat (go_quiet (fail);try go_wp2)
          go_ret
          exact ⟨by first|rfl|(simp [errW_none,errW_some] <;> rfl)|(simp [*,errW_none,errW_some] <;> rfl),bG HB.out⟩
         ·replace bO := Bool.eq_false_iff.mpr bO
          subst bO
          rw [if_neg (show ¬ (false = true) by decide)] at H
          by_cases bs : ab > 0
          ·rw [if_pos bs] at H
           have bH := decide_eq_true bs
           clear bs
           obtain ⟨aq,aJ⟩ : ∃ j_ : Int,(wrap64 (ab - 1)) = j_ := ⟨_,rfl⟩
           replace H : (if 0 ≤ (aq) then (if (aq) < (l0.length : Int) then (if ((Op.bytesLess (((rd_T55 l0 (aq)).f0).toList) ((rd_T55 l0 ab).f0).toList) = true) then (tree_Right.j2 kj10 l0 ab l0 (l0.length : Int) ab ((rd_T55 l0 ab).f0) ((rd_T55 l0 ab).f1)) else (some 7)) else (none)) else (none)) = some r := by first|(rw [aJ] at H;exact H)|(simp only [aJ] at H ⊢;exact H)
           have bV : (IntKind.i64.wrap (ab - 1)) = aq := (i64_w _).trans aJ
           obtain ⟨b2,H⟩ := iS H
           have b3 := decide_eq_true b2
           clear b2
           obtain ⟨b4,H⟩ := iS H
           have b5 := decide_eq_true b4
           clear b4
           by_cases bu : ((Op.bytesLess (((rd_T55 l0 (aq)).f0).toList) ((rd_T55 l0 ab).f0).toList) = true)
           ·rw [if_pos bu] at H
            have bI : (Op.bytesLess (((rd_T55 l0 (aq)).f0).toList) ((rd_T55 l0 ab).f0).toList) = true := bu
            clear bu
            have H' := aK H
            clear H
            obtain ⟨_,_,_,_⟩ := bk2_ aa.out
            have ay : 0 ≤ ((aq) : Int) := dA
            have az : (aq) < (l0.length : Int) := dA
            obtain ⟨a7,bo,am,an⟩ := at_T55 bq.out (aq) ay az
            obtain rfl : aA = a7 := (by injection bo)
            replace am := xM HB am
            replace an := xM HB an
            replace ay := eq_true ay
            replace az := eq_true az
            go_wp2
            repeat (go_quiet (fail);try go_wp2)
            go_meet
            case rel => exact ⟨_,H',⟨by have := a9.out;have := bF.out;first|omega|exact Nat.le_refl _⟩,⟨kM aa.out⟩,⟨bG HB.out⟩⟩
           ·rw [if_neg bu] at H
            have bI : (Op.bytesLess (((rd_T55 l0 (aq)).f0).toList) ((rd_T55 l0 ab).f0).toList) = false := by simpa using bu
            clear bu
            obtain rfl := Option.some.inj H
            obtain ⟨_,_,_,_⟩ := bk2_ aa.out
            have ay : 0 ≤ ((aq) : Int) := dA
            have az : (aq) < (l0.length : Int) := dA
            obtain ⟨a7,bo,am,an⟩ := at_T55 bq.out (aq) ay az
            obtain rfl : aA = a7 := (by injection bo)
            replace am := xM HB am
            replace an := xM HB an
            replace ay := eq_true ay
            replace az := eq_true az
            go_wp2
            repeat (go_quiet (fail);try go_wp2)
            go_ret
            exact ⟨by first|rfl|(simp [errW_none,errW_some] <;> rfl)|(simp only [← aJ];first|rfl|(simp [errW_none,errW_some] <;> rfl))|(simp [*,errW_none,errW_some] <;> rfl),bG HB.out⟩
          ·rw [if_neg bs] at H
           have bH := decide_eq_false bs
           clear bs
           have H' := aK H
           clear H
           go_wp2
           repeat (go_quiet (fail);try go_wp2)
           go_meet
           case rel => exact ⟨_,H',⟨by have := a9.out;have := bF.out;first|omega|exact Nat.le_refl _⟩,⟨kM aa.out⟩,⟨bG HB.out⟩⟩
      ·replace c10 := Bool.eq_false_iff.mpr c10
       subst c10
       rw [if_neg (show ¬ (false = true) by decide)] at H
       obtain rfl := Option.some.inj H
       obtain ⟨_,_,_,_⟩ := bk2_ aa.out
       go_wp2_with (first|(go_at_call 65;(with_reducible refine (glob_ValidPath.calls k1 ((rd_T55 l0 ab).f0) false _ A9.out).mono ?_);rintro e b6 ⟨rfl,hb⟩;replace aa := aK (blk_below (g := ag) (o := .cells #[.string ((rd_T55 l0 ab).f0),.int .i64 ((rd_T55 l0 ab).f1)] 55 (0,0)) (by refine kO ?_;refine blk_put (cs := #[.string ((rd_T55 l0 ab).f0),.int .i64 0]) ?_ 1 _ rfl;refine kO ?_;refine blk_put (cs := #[.string (⟨#[]⟩ : ByteArray),.int .i64 0]) ?_ 0 _ rfl;refine kO ?_;exact aa.out) hb);replace HB := aK (below_step (bG HB.out) hb);(try clear hb)))
       repeat (go_quiet (first|(go_at_call 65;(with_reducible refine (glob_ValidPath.calls k1 ((rd_T55 l0 ab).f0) false _ A9.out).mono ?_);rintro e b6 ⟨rfl,hb⟩;replace aa := aK (blk_below (g := ag) (o := .cells #[.string ((rd_T55 l0 ab).f0),.int .i64 ((rd_T55 l0 ab).f1)] 55 (0,0)) (by refine kO ?_;refine blk_put (cs := #[.string ((rd_T55 l0 ab).f0),.int .i64 0]) ?_ 1 _ rfl;refine kO ?_;refine blk_put (cs := #[.string (⟨#[]⟩ : ByteArray),.int .i64 0]) ?_ 0 _ rfl;refine kO ?_;exact aa.out) hb);replace HB := aK (below_step (bG HB.out) hb);(try clear hb)));try go_wp2_with (first|(go_at_call 65;(with_reducible refine (glob_ValidPath.calls k1 ((rd_T55 l0 ab).f0) false _ A9.out).mono ?_);rintro e b6 ⟨rfl,hb⟩;replace aa := aK (blk_below (g := ag) (o := .cells #[.string ((rd_T55 l0 ab).f0),.int .i64 ((rd_T55 l0 ab).f1)] 55 (0,0)) (by refine kO ?_;refine blk_put (cs := #[.string ((rd_T55 l0 ab).f0),.int .i64 0]) ?_ 1 _ rfl;refine kO ?_;refine blk_put (cs := #[.string (⟨#[]⟩ : ByteArray),.int .i64 0]) ?_ 0 _ rfl;refine kO ?_;exact aa.out) hb);replace HB := aK (below_step (bG HB.out) hb);(try clear hb))))
       go_ret
       exact ⟨by first|rfl|(simp [errW_none,errW_some] <;> rfl)|(simp [*,errW_none,errW_some] <;> rfl),bG HB.out⟩
     case rest =>
      clear bS
      try clear p1
      try clear q1
      try clear hx1
      try clear p2
      try clear p6
      try clear p17
      try clear q17
      try clear hx17
      try clear ao
      try clear ap
      try clear am
      try clear an
      try clear p1
      try clear a5
      try clear ay
      try clear p2
      try clear q1
      try clear a6
      try clear az
      obtain ⟨kq,HA,bv,aa,HB⟩ := hcut
      cases kq with
     |zero => exact absurd HA.out (by simp [tree_Right.j2])
     |succ kj5 =>
       have H := HA.out
       clear HA
       simp only [tree_Right.j2] at H
       have H' := aK H
       clear H
       go_wp2
       repeat (go_quiet (fail);try go_wp2)
       go_loopg [47] kj5 (fun kq ch w' => ∃ (af : Int),ch = .int .i64 af ∧ Aside0 (tree_Right.l1 kq l0 ab l0 (l0.length : Int) ab l0 (l0.length : Int) af ((rd_T55 l0 ab).f0) ((rd_T55 l0 ab).f1) = some r) ∧ Aside0 (kq ≤ kj5) ∧ Aside0 (w'.heap[ag]? = some (.cells #[.string ((rd_T55 l0 ab).f0),.int .i64 ((rd_T55 l0 ab).f1)] 55 (0,0))) ∧ Aside0 (Below w.heap.size w w'))
       case atStart => exact ⟨(0),(by first|rfl|(simp;done)|(simp [*];done)),H',⟨Nat.le_refl _⟩,⟨kM aa.out⟩,⟨bG HB.out⟩⟩
       case round =>
        clear H'
        try clear p1
        try clear q1
        try clear hx1
        try clear p2
        try clear p6
        try clear p17
        try clear q17
        try clear hx17
        try clear ao
        try clear ap
        try clear am
        try clear an
        try clear p1
        try clear p17
        try clear a5
        try clear ay
        try clear p2
        try clear p6
        try clear q1
        try clear q17
        try clear a6
        try clear az
        obtain ⟨af,rfl,HA,bx,aa,HB⟩ := hrel
        cases gk with
       |zero => exact absurd HA.out (by simp [tree_Right.l1])
       |succ k3 =>
         have H := HA.out
         clear HA
         simp only [tree_Right.l1] at H
         by_cases bz : af < (l0.length : Int)
         ·rw [if_pos bz] at H
          have bJ := decide_eq_true bz
          clear bz
          obtain ⟨b7,H⟩ := iS H
          have b8 := decide_eq_true b7
          clear b7
          obtain ⟨b9,H⟩ := iS H
          have ca := decide_eq_true b9
          clear b9
          by_cases bp : af = ab
          ·rw [if_pos bp] at H
           have bK := beq_iff_eq.mpr bp
           have bL := bne_eq_false_iff_eq.mpr bp
           clear bp
           have H' := aK H
           clear H
           have av : 0 ≤ (af : Int) := dA
           have aw : af < (l0.length : Int) := dA
           obtain ⟨aE,a8,ak,al⟩ := at_T55 bq.out af av aw
           obtain rfl : aA = aE := (by injection a8)
           replace ak := xM HB ak
           replace al := xM HB al
           replace av := eq_true av
           replace aw := eq_true aw
           go_wp2_with (first|((with_reducible refine gate_dst (N := 6) rfl ?_);refine box_event ?hg (N := 6) ?hd (cs := #[.string (⟨#[]⟩ : ByteArray),.int .i64 0]) (t := 55) ?hr ?_;(case hd => rfl);(case hg => rfl);(case hr => first|(go_simp;done)|(go_simp;rfl));intro ae hg cb hbox hb;have ah := aK (hbox);have ai := aK ((by rw [hg];exact (below_size (bG HB.out)) : w.heap.size ≤ ae));have ar := Ge.mk ai.out;have aj := aK ((by rw [hg];exact (below_size (bG HB.out)) : w.heap.size ≤ ae));have au := Ge.mk aj.out;replace HB := aK (below_step (bG HB.out) hb);have ac := aK (nbL aa.out hg);have ad := aK (nbR aa.out hg);replace aa := aK (blk_below (kM aa.out) hb);clear hb hbox hg;have bg := ad.out;have bh := ac.out;obtain ⟨aL,aM,aN,aO⟩ := bk2_ ah.out))
           repeat (go_quiet (first|((with_reducible refine gate_dst (N := 6) rfl ?_);refine box_event ?hg (N := 6) ?hd (cs := #[.string (⟨#[]⟩ : ByteArray),.int .i64 0]) (t := 55) ?hr ?_;(case hd => rfl);(case hg => rfl);(case hr => first|(go_simp;done)|(go_simp;rfl));intro ae hg cb hbox hb;have ah := aK (hbox);have ai := aK ((by rw [hg];exact (below_size (bG HB.out)) : w.heap.size ≤ ae));have ar := Ge.mk ai.out;have aj := aK ((by rw [hg];exact (below_size (bG HB.out)) : w.heap.size ≤ ae));have au := Ge.mk aj.out;replace HB := aK (below_step (bG HB.out) hb);have ac := aK (nbL aa.out hg);have ad := aK (nbR aa.out hg);replace aa := aK (blk_below (kM aa.out) hb);clear hb hbox hg;have bg := ad.out;have bh := ac.out;obtain ⟨aL,aM,aN,aO⟩ := bk2_ ah.out));try go_wp2_with (first|((with_reducible refine gate_dst (N := 6) rfl ?_);refine box_event ?hg (N := 6) ?hd (cs := #[.string (⟨#[]⟩ : ByteArray),.int .i64 0]) (t := 55) ?hr ?_;(case hd => rfl);(case hg => rfl);(case hr => first|(go_simp;done)|(go_simp;rfl));intro ae hg cb hbox hb;have ah := aK (hbox);have ai := aK ((by rw [hg];exact (below_size (bG HB.out)) : w.heap.size ≤ ae));have ar := Ge.mk ai.out;have aj := aK ((by rw [hg];exact (below_size (bG HB.out)) : w.heap.size ≤ ae));have au := Ge.mk aj.out;replace HB := aK (below_step (bG HB.out) hb);have ac := aK (nbL aa.out hg);have ad := aK (nbR aa.out hg);replace aa := aK (blk_below (kM aa.out) hb);clear hb hbox hg;have bg := ad.out;have bh := ac.out;obtain ⟨aL,aM,aN,aO⟩ := bk2_ ah.out)))
           go_roundg k3
           case measure => have := a9.out;have := bv.out;have := bx.out;omega
           case rel => exact ⟨(wrap64 (af + 1)),(by first|rfl|(simp;done)|(simp [*];done)),H',⟨by have := a9.out;have := bv.out;have := bx.out;omega⟩,⟨by refine kO ?_;refine blk_far ?_ ac.out _;refine kO ?_;refine blk_far ?_ ac.out _;refine kO ?_;exact aa.out⟩,⟨bG HB.out⟩⟩
          ·rw [if_neg bp] at H
           have bK := beq_eq_false_iff_ne.mpr bp
           have bL := bne_iff_ne.mpr bp
           replace H := Option.bind_eq_some_iff.mp H
           obtain ⟨bW,bN,H⟩ := H
           have bB := aK bN
           clear bN
           by_cases bP : bW = true
           ·subst bP
            rw [if_pos rfl] at H
            obtain rfl := Option.some.inj H
            have av : 0 ≤ (af : Int) := dA
            have aw : af < (l0.length : Int) := dA
            obtain ⟨aE,a8,ak,al⟩ := at_T55 bq.out af av aw
            obtain rfl : aA = aE := (by injection a8)
            replace ak := xM HB ak
            replace al := xM HB al
            replace av := eq_true av
            replace aw := eq_true aw
            go_wp2_with (first|((with_reducible refine gate_dst (N := 6) rfl ?_);refine box_event ?hg (N := 6) ?hd (cs := #[.string (⟨#[]⟩ : ByteArray),.int .i64 0]) (t := 55) ?hr ?_;(case hd => rfl);(case hg => rfl);(case hr => first|(go_simp;done)|(go_simp;rfl));intro ae hg cc hbox hb;have ah := aK (hbox);have ai := aK ((by rw [hg];exact (below_size (bG HB.out)) : w.heap.size ≤ ae));have ar := Ge.mk ai.out;have aj := aK ((by rw [hg];exact (below_size (bG HB.out)) : w.heap.size ≤ ae));have au := Ge.mk aj.out;replace HB := aK (below_step (bG HB.out) hb);have ac := aK (nbL aa.out hg);have ad := aK (nbR aa.out hg);replace aa := aK (blk_below (kM aa.out) hb);clear hb hbox hg;have bi := ad.out;have bj := ac.out;obtain ⟨aP,aQ,aR,aS⟩ := bk2_ ah.out;obtain ⟨aT,aU,aV,aW⟩ := bk2_ aa.out)|(go_at_call 66;(with_reducible refine (glob_Under.calls ((rd_T55 l0 ab).f0) ((rd_T55 l0 af).f0) true _ bB.out).mono ?_);rintro e w' ⟨rfl,⟨nd,rfl⟩⟩;(try first|exact ⟨rfl,_,World.drewN_drewN _ _ _⟩|exact ⟨rfl,_,Eq.trans (World.drewN_drewN _ _ _) (congrArg (World.drewN _) (Nat.add_assoc _ _ _))⟩)))
            repeat (go_quiet (first|((with_reducible refine gate_dst (N := 6) rfl ?_);refine box_event ?hg (N := 6) ?hd (cs := #[.string (⟨#[]⟩ : ByteArray),.int .i64 0]) (t := 55) ?hr ?_;(case hd => rfl);(case hg => rfl);(case hr => first|(go_simp;done)|(go_simp;rfl));intro ae hg cc hbox hb;have ah := aK (hbox);have ai := aK ((by rw [hg];exact (below_size (bG HB.out)) : w.heap.size ≤ ae));have ar := Ge.mk ai.out;have aj := aK ((by rw [hg];exact (below_size (bG HB.out)) : w.heap.size ≤ ae));have au := Ge.mk aj.out;replace HB := aK (below_step (bG HB.out) hb);have ac := aK (nbL aa.out hg);have ad := aK (nbR aa.out hg);replace aa := aK (blk_below (kM aa.out) hb);clear hb hbox hg;have bi := ad.out;have bj := ac.out;obtain ⟨aP,aQ,aR,aS⟩ := bk2_ ah.out;obtain ⟨aT,aU,aV,aW⟩ := bk2_ aa.out)|(go_at_call 66;(with_reducible refine (glob_Under.calls ((rd_T55 l0 ab).f0) ((rd_T55 l0 af).f0) true _ bB.out).mono ?_);rintro e w' ⟨rfl,⟨nd,rfl⟩⟩;(try first|exact ⟨rfl,_,World.drewN_drewN _ _ _⟩|exact ⟨rfl,_,Eq.trans (World.drewN_drewN _ _ _) (congrArg (World.drewN _) (Nat.add_assoc _ _ _))⟩)));try go_wp2_with (first|((with_reducible refine gate_dst (N := 6) rfl ?_);refine box_event ?hg (N := 6) ?hd (cs := #[.string (⟨#[]⟩ : ByteArray),.int .i64 0]) (t := 55) ?hr ?_;(case hd => rfl);(case hg => rfl);(case hr => first|(go_simp;done)|(go_simp;rfl));intro ae hg cc hbox hb;have ah := aK (hbox);have ai := aK ((by rw [hg];exact (below_size (bG HB.out)) : w.heap.size ≤ ae));have ar := Ge.mk ai.out;have aj := aK ((by rw [hg];exact (below_size (bG HB.out)) : w.heap.size ≤ ae));have au := Ge.mk aj.out;replace HB := aK (below_step (bG HB.out) hb);have ac := aK (nbL aa.out hg);have ad := aK (nbR aa.out hg);replace aa := aK (blk_below (kM aa.out) hb);clear hb hbox hg;have bi := ad.out;have bj := ac.out;obtain ⟨aP,aQ,aR,aS⟩ := bk2_ ah.out;obtain ⟨aT,aU,aV,aW⟩ := bk2_ aa.out)|(go_at_call 66;(with_reducible refine (glob_Under.calls ((rd_T55 l0 ab).f0) ((rd_T55 l0 af).f0) true _ bB.out).mono ?_);rintro e w' ⟨rfl,⟨nd,rfl⟩⟩;(try first|exact ⟨rfl,_,World.drewN_drewN _ _ _⟩|exact ⟨rfl,_,Eq.trans (World.drewN_drewN _ _ _) (congrArg (World.drewN _) (Nat.add_assoc _ _ _))⟩))))
            go_ret
            exact ⟨by first|rfl|(simp [errW_none,errW_some] <;> rfl)|(simp [*,errW_none,errW_some] <;> rfl),bG HB.out⟩
           ·replace bP := Bool.eq_false_iff.mpr bP
            subst bP
            rw [if_neg (show ¬ (false = true) by decide)] at H
            have H' := aK H
            clear H
            have av : 0 ≤ (af : Int) := dA
            have aw : af < (l0.length : Int) := dA
            obtain ⟨aE,a8,ak,al⟩ := at_T55 bq.out af av aw
            obtain rfl : aA = aE := (by injection a8)
            replace ak := xM HB ak
            replace al := xM HB al
            replace av := eq_true av
            replace aw := eq_true aw
            go_wp2_with (first|((with_reducible refine gate_dst (N := 6) rfl ?_);refine box_event ?hg (N := 6) ?hd (cs := #[.string (⟨#[]⟩ : ByteArray),.int .i64 0]) (t := 55) ?hr ?_;(case hd => rfl);(case hg => rfl);(case hr => first|(go_simp;done)|(go_simp;rfl));intro ae hg cd hbox hb;have ah := aK (hbox);have ai := aK ((by rw [hg];exact (below_size (bG HB.out)) : w.heap.size ≤ ae));have ar := Ge.mk ai.out;have aj := aK ((by rw [hg];exact (below_size (bG HB.out)) : w.heap.size ≤ ae));have au := Ge.mk aj.out;replace HB := aK (below_step (bG HB.out) hb);have ac := aK (nbL aa.out hg);have ad := aK (nbR aa.out hg);replace aa := aK (blk_below (kM aa.out) hb);clear hb hbox hg;have bk := ad.out;have bm := ac.out;obtain ⟨aX,aY,aZ,a0⟩ := bk2_ ah.out;obtain ⟨a1,a2,a3,a4⟩ := bk2_ aa.out)|(go_at_call 66;(with_reducible refine (glob_Under.calls ((rd_T55 l0 ab).f0) ((rd_T55 l0 af).f0) false _ bB.out).mono ?_);rintro e w' ⟨rfl,⟨nd,rfl⟩⟩;(try first|exact ⟨rfl,_,World.drewN_drewN _ _ _⟩|exact ⟨rfl,_,Eq.trans (World.drewN_drewN _ _ _) (congrArg (World.drewN _) (Nat.add_assoc _ _ _))⟩)))
            repeat (go_quiet (first|((with_reducible refine gate_dst (N := 6) rfl ?_);refine box_event ?hg (N := 6) ?hd (cs := #[.string (⟨#[]⟩ : ByteArray),.int .i64 0]) (t := 55) ?hr ?_;(case hd => rfl);(case hg => rfl);(case hr => first|(go_simp;done)|(go_simp;rfl));intro ae hg cd hbox hb;have ah := aK (hbox);have ai := aK ((by rw [hg];exact (below_size (bG HB.out)) : w.heap.size ≤ ae));have ar := Ge.mk ai.out;have aj := aK ((by rw [hg];exact (below_size (bG HB.out)) : w.heap.size ≤ ae));have au := Ge.mk aj.out;replace HB := aK (below_step (bG HB.out) hb);have ac := aK (nbL aa.out hg);have ad := aK (nbR aa.out hg);replace aa := aK (blk_below (kM aa.out) hb);clear hb hbox hg;have bk := ad.out;have bm := ac.out;obtain ⟨aX,aY,aZ,a0⟩ := bk2_ ah.out;obtain ⟨a1,a2,a3,a4⟩ := bk2_ aa.out)|(go_at_call 66;(with_reducible refine (glob_Under.calls ((rd_T55 l0 ab).f0) ((rd_T55 l0 af).f0) false _ bB.out).mono ?_);rintro e w' ⟨rfl,⟨nd,rfl⟩⟩;(try first|exact ⟨rfl,_,World.drewN_drewN _ _ _⟩|exact ⟨rfl,_,Eq.trans (World.drewN_drewN _ _ _) (congrArg (World.drewN _) (Nat.add_assoc _ _ _))⟩)));try go_wp2_with (first|((with_reducible refine gate_dst (N := 6) rfl ?_);refine box_event ?hg (N := 6) ?hd (cs := #[.string (⟨#[]⟩ : ByteArray),.int .i64 0]) (t := 55) ?hr ?_;(case hd => rfl);(case hg => rfl);(case hr => first|(go_simp;done)|(go_simp;rfl));intro ae hg cd hbox hb;have ah := aK (hbox);have ai := aK ((by rw [hg];exact (below_size (bG HB.out)) : w.heap.size ≤ ae));have ar := Ge.mk ai.out;have aj := aK ((by rw [hg];exact (below_size (bG HB.out)) : w.heap.size ≤ ae));have au := Ge.mk aj.out;replace HB := aK (below_step (bG HB.out) hb);have ac := aK (nbL aa.out hg);have ad := aK (nbR aa.out hg);replace aa := aK (blk_below (kM aa.out) hb);clear hb hbox hg;have bk := ad.out;have bm := ac.out;obtain ⟨aX,aY,aZ,a0⟩ := bk2_ ah.out;obtain ⟨a1,a2,a3,a4⟩ := bk2_ aa.out)|(go_at_call 66;(with_reducible refine (glob_Under.calls ((rd_T55 l0 ab).f0) ((rd_T55 l0 af).f0) false _ bB.out).mono ?_);rintro e w' ⟨rfl,⟨nd,rfl⟩⟩;(try first|exact ⟨rfl,_,World.drewN_drewN _ _ _⟩|exact ⟨rfl,_,Eq.trans (World.drewN_drewN _ _ _) (congrArg (World.drewN _) (Nat.add_assoc _ _ _))⟩))))
            go_roundg k3
            case measure => have := a9.out;have := bv.out;have := bx.out;omega
            case rel => exact ⟨(wrap64 (af + 1)),(by first|rfl|(simp;done)|(simp [*];done)),H',⟨by have := a9.out;have := bv.out;have := bx.out;omega⟩,⟨by refine kO ?_;refine blk_far ?_ ac.out _;refine kO ?_;refine blk_far ?_ ac.out _;refine kO ?_;exact aa.out⟩,⟨bG HB.out⟩⟩
         ·rw [if_neg bz] at H
          have bJ := decide_eq_false bz
          clear bz
          have H' := aK H
          clear H
          go_wp2
          repeat (go_quiet (fail);try go_wp2)
          go_roundg k3
          case measure => have := a9.out;have := bv.out;have := bx.out;omega
          case rel => exact ⟨(wrap64 (ab + 1)),(by first|rfl|(simp;done)|(simp [*];done)),H',⟨by have := a9.out;have := bv.out;have := bx.out;omega⟩,⟨bG HB.out⟩⟩
    ·rw [if_neg c3] at H
     have bE := decide_eq_false c3
     clear c3
     obtain rfl := Option.some.inj H
     go_wp2
     repeat (go_quiet (fail);try go_wp2)
     go_ret
     exact ⟨by first|rfl|(simp [errW_none,errW_some] <;> rfl)|(simp [*,errW_none,errW_some] <;> rfl),bM HB.out⟩

/-! ### tree_contents: function 56 (by hand) -/
open Go.Maps
/-! ### A map from strings to numbers, as a list of its entries -/
abbrev MP := List (ByteArray × Int)
def mget : MP → ByteArray → Option Int
  | [], _ => none
  | p :: m, s => if p.1 = s then some p.2 else mget m s
def mput (m : MP) (s : ByteArray) (v : Int) : MP := (s, v) :: m
def mdel (m : MP) (s : ByteArray) : MP := m.filter fun p => decide (p.1 ≠ s)
theorem mget_put (m : MP) (s t : ByteArray) (v : Int) : mget (mput m s v) t = if s = t then some v else mget m t := rfl
theorem mget_del (m : MP) (s t : ByteArray) : mget (mdel m s) t = if s = t then none else mget m t := by
  induction m with
  | nil => simp [mdel, mget]
  | cons p m ih =>
    by_cases h : p.1 = s
    · rw [show mdel (p :: m) s = mdel m s from List.filter_cons_of_neg (by simpa using h), ih, mget]
      by_cases h2 : s = t
      · rw [if_pos h2, if_pos h2]
      · rw [if_neg h2, if_neg h2, if_neg (by rw [h]; exact h2)]
    · rw [show mdel (p :: m) s = p :: mdel m s from List.filter_cons_of_pos (by simpa using h), mget, ih, mget]
      by_cases h2 : s = t
      · rw [if_pos h2, if_neg (by rw [← h2]; exact h), if_pos h2]
      · rw [if_neg h2]; simp [h2]
def kS (s : ByteArray) : Lit := .string s.data.toList
theorem kS_inj {s t : ByteArray} (h : kS s = kS t) : s = t := by
  injection h with h
  cases s; cases t
  congr 1
  exact Array.toList_inj.1 h
theorem kS_key (s : ByteArray) : WideAt.IsKeyLit (kS s) := trivial
def i0 : DataW Unit := .lit (.int .i64 0)
def Rep (D : DataW Unit) (m : MP) : Prop := ∀ s : ByteArray, Maps.has D (kS s) = (mget m s).isSome ∧ D.atKey (kS s) i0 = .lit (.int .i64 ((mget m s).getD 0))
theorem Rep.empty : Rep (.map []) [] := fun _ => ⟨rfl, rfl⟩
theorem Rep.put {D : DataW Unit} {m : MP} (h : Rep D m) (hD : IsMap D) (s : ByteArray) (v : Int) : Rep (D.put (kS s) (.lit (.int .i64 v))) (mput m s v) := by
  intro t
  rw [mget_put]
  by_cases hst : s = t
  · subst hst
    rw [if_pos rfl]
    exact ⟨has_put_same hD (kS_key s) _, atKey_put_same hD (kS_key s) _ _⟩
  · rw [if_neg hst]
    have hne : kS t ≠ kS s := fun e => hst (kS_inj e).symm
    exact ⟨(has_put_other hne _).trans (h t).1, (atKey_put_other hne _ _).trans (h t).2⟩
theorem Rep.del {D : DataW Unit} {m : MP} (h : Rep D m) (s : ByteArray) : Rep (D.del (kS s)) (mdel m s) := by
  intro t
  rw [mget_del]
  by_cases hst : s = t
  · subst hst
    rw [if_pos rfl]
    exact ⟨has_del_same, atKey_del_same _⟩
  · rw [if_neg hst]
    have hne : kS t ≠ kS s := fun e => hst (kS_inj e).symm
    exact ⟨(has_del_other hne).trans (h t).1, (atKey_del_other hne _).trans (h t).2⟩
/-- Block b is the map m, of at most n entries. -/
def SM (P : Program) (ks es : TypeId) (w : World) (b n : Nat) (m : MP) : Prop := ∃ D : DataW Unit, w.ownsMap P ks (plainElem P es) b n D ∧ Rep D m
section
variable {P : Program} {ks es : TypeId} {w w1 : World} {b n : Nat} {m : MP}
theorem SM.lt (h : SM P ks es w b n m) : b < w.heap.size := let ⟨_, h1, _⟩ := h; h1.lt
theorem SM.below (h : SM P ks es w b n m) (hb : Below w.heap.size w w1) : SM P ks es w1 b n m := by
  obtain ⟨D, h1, h2⟩ := h
  exact ⟨D, h1.kept (grown_of_below hb none) (by simp), h2⟩
theorem SM.grown (h : SM P ks es w b n m) {row : Option Nat} (hg : w.grownBy w1 row) (hne : some b ≠ row) : SM P ks es w1 b n m := by
  obtain ⟨D, h1, h2⟩ := h
  exact ⟨D, h1.kept hg hne, h2⟩
theorem SM.far (h : SM P ks es w b n m) {a : Addr} (ha : b ≠ a.block) (u : Value) : SM P ks es (w.setCell a u) b n m := by
  obtain ⟨D, h1, h2⟩ := h
  exact ⟨D, h1.setCell ha u, h2⟩
theorem SM.made (w : World) : SM P ks es (w.alloc (.map #[] 0)) w.heap.size 0 [] := ⟨_, World.ownsMap_made w P ks _, Rep.empty⟩
theorem SM.mono (h : SM P ks es w b n m) {n' : Nat} (hn : n ≤ n') : SM P ks es w b n' m := let ⟨D, h1, h2⟩ := h; ⟨D, h1.mono hn, h2⟩
end
theorem law9 : Keyed Tryz.prog 9 := string_keyed Tryz.underlying9
theorem zero3 (w : World) : (zeroValue 3).run Tryz.prog w = .ok (.int .i64 0) w := Tryz.zeroValue3 w
/-- Paths and numbers that a map takes. -/
def okS (s : ByteArray) : Bool := decide (s.size ≤ 140737488351232)
def okI (x : Int) : Bool := decide (-9223372036854775808 ≤ x) && decide (x ≤ 9223372036854775807)
theorem key_ok {s : ByteArray} (h : okS s = true) : keyOf Tryz.prog 9 (.string s) = some (kS s) := Go.WideMaps.keyOf_string_mk Tryz.underlying9 (by have := of_decide_eq_true h; unfold maxLen; omega)
theorem val_ok {x : Int} (h : okI x = true) : plainElem (H := Unit) Tryz.prog 3 (.int .i64 x) = some (.lit (.int .i64 x), []) := plainElem_int Tryz.underlying3 (by
  simp only [okI, Bool.and_eq_true, decide_eq_true_eq] at h
  simpa [Lit.wf, IntKind.min, IntKind.max, IntKind.signed, IntKind.bits] using h)
theorem w_inc_ (i : Nat) (h : i ≤ 1000000000000) : wrap64 ((i : Int) + 1) = ((i + 1 : Nat) : Int) := by unfold wrap64; omega
def okFs (l : List S55) : Bool := l.all fun x => okS x.f0 && okI x.f1
def contsM (l : List S55) : MP := l.foldl (fun m x => mput m x.f0 x.f1) []
theorem contsM_snoc (l : List S55) (i : Nat) (h : i < l.length) : contsM (l.take (i + 1)) = mput (contsM (l.take i)) l[i].f0 l[i].f1 := by
  rw [List.take_succ_eq_append_getElem h, contsM, List.foldl_append]; rfl
theorem rd45_nat (l : List S55) (i : Nat) (h : i < l.length) : rd_T55 l (i : Int) = l[i] := by
  simp [rd_T55, List.getD_eq_getElem?_getD, List.getElem?_eq_getElem h]
theorem tree_contents.calls_ (A0 : Option Addr) (c0 : Nat) (l0 : List S55) (w : World) (hr0 : Kd.C k55 w A0 l0.length l0) (hc0 : l0.length ≤ c0) (hok : okFs l0 = true) (hlen : l0.length ≤ 1000000) :
    Calls Tryz.prog 56 #[.slice A0 l0.length c0] w fun e w' => ∃ b, e = .returned (.map (some b)) ∧ w.heap.size ≤ b ∧ SM Tryz.prog 9 3 w' b l0.length (contsM l0) ∧ Below w.heap.size w w' := by
  have hu55 := Tryz.underlying55
  have HR0 := aK hr0
  have HOK := aK (And.intro hok hlen)
  clear hr0 hc0 hok hlen
  have hmm := @run_makeMap Tryz.prog
  go_enter Tryz.func56, Tryz.ntmps56
  go_wp2
  go_loopg [9] l0.length (fun kq v9 w' => ∃ (i : Nat), v9 = .int .i64 (i : Int) ∧ Aside0 (i ≤ l0.length ∧ l0.length - i ≤ kq) ∧ Aside0 (SM Tryz.prog 9 3 w' w.heap.size i (contsM (l0.take i))) ∧ Aside0 (Below w.heap.size w w'))
  case atStart => exact ⟨0, rfl, ⟨Nat.zero_le _, by omega⟩, ⟨SM.made w⟩, ⟨(Below.refl _ _).alloc (Nat.le_refl _) _⟩⟩
  case round =>
    obtain ⟨i, rfl, HK, HM, HB⟩ := hrel
    by_cases hlt : i < l0.length
    · cases gk with
      | zero => exfalso; have := HK.out; omega
      | succ k1 =>
        have c1 : decide ((i : Int) < (l0.length : Int)) = true := decide_eq_true (by omega)
        obtain ⟨ad, e, hx0, hx1⟩ := at_T55 HR0.out (i : Int) (by omega) (by omega)
        subst e
        rw [rd45_nat l0 i hlt, Int.toNat_natCast] at hx0 hx1
        replace hx0 := (HB.out.cell (World.block_lt_of_cell? w _ hx0)).trans hx0
        replace hx1 := (HB.out.cell (World.block_lt_of_cell? w _ hx1)).trans hx1
        have p : (0 ≤ (i : Int)) = True := eq_true (by omega)
        have q : ((i : Int) < (l0.length : Int)) = True := eq_true (by omega)
        generalize hA : l0[i].f0 = s at hx0 hx1
        generalize hB : l0[i].f1 = x at hx0 hx1
        have HSX := aK (show okS s = true ∧ okI x = true from by
          have h1 := List.all_eq_true.1 HOK.out.1 l0[i] (List.getElem_mem _)
          rw [hA, hB, Bool.and_eq_true] at h1
          exact h1)
        have HE := aK (And.intro hA hB)
        clear hA hB
        go_wp2_with (first
          | ((with_reducible refine gate_dst (N := 5) rfl ?_); refine box_event ?hg (N := 5) ?hd (cs := #[.string (⟨#[]⟩ : ByteArray), .int .i64 0]) (t := 55) ?hr ?_; (case hd => rfl); (case hg => rfl); (case hr => first | (go_simp; done) | (go_simp; rfl)); intro gb hg w9 hbox hb
             have n0_ := aK (HM.out.below hb); have n1_ := aK (below_step HB.out hb); have n2_ := aK hbox; have n3_ := aK (by rw [hg]; exact HM.out.lt : w.heap.size < gb)
             have hcz0 : w9.cell? ⟨gb, 0, none⟩ = some (.string (⟨#[]⟩ : ByteArray)) := (blk_cell hbox 0).trans rfl
             have hcz1 : w9.cell? ⟨gb, 1, none⟩ = some (.int .i64 0) := (blk_cell hbox 1).trans rfl
             have hfz0 := blk_frozen hbox 0
             have hfz1 := blk_frozen hbox 1
             clear HM HB hb hbox hg
             have HM := n0_; have HB := n1_; have BK := n2_; have GG := n3_; clear n0_ n1_ n2_ n3_)
          | (at_mapUpdate
             obtain ⟨D, hD, hRp⟩ := (HM.out.far (a := ⟨gb, 0, none⟩) (Nat.ne_of_lt GG.out) (.string s)).far (a := ⟨gb, 1, none⟩) (Nat.ne_of_lt GG.out) (.int .i64 x)
             refine wpList_mapUpdate_own _ rfl _ _ _ 77 rfl 9 3 law9 Tryz.underlying77 _ w.heap.size i D rfl hD (by have := HK.out; have := HOK.out.2; unfold maxLen; omega) _ _ _ rfl rfl (key_ok HSX.out.1) _ [] (val_ok HSX.out.2) ?_
             intro w2 hown2 hgrow2
             have n0_ := aK (show SM Tryz.prog 9 3 w2 w.heap.size (i + 1) (mput (contsM (l0.take i)) s x) from ⟨_, hown2, hRp.put hD.isMap s x⟩)
             have n1_ := aK (((HB.out.setCell (p := ⟨gb, 0, none⟩) (Nat.le_of_lt GG.out) (.string s)).setCell (p := ⟨gb, 1, none⟩) (Nat.le_of_lt GG.out) (.int .i64 x)).grown hgrow2 (by have := HB.out.size; simpa [World.setCell] using this) (fun k hk => by cases hk; exact Nat.le_refl _))
             clear HM HB hD hRp hown2 hgrow2
             have HM := n0_; have HB := n1_; clear n0_ n1_))
        go_roundg k1
        case measure => omega
        case rel =>
          refine ⟨i + 1, by rw [w_inc_ i (by have := HOK.out.2; omega)], ⟨by omega, by have := HK.out; omega⟩, ⟨?_⟩, HB⟩
          have h1 := HM.out
          rw [← HE.out.1, ← HE.out.2, ← contsM_snoc l0 i hlt] at h1
          exact h1
    · have hi : i = l0.length := by have := HK.out; omega
      have c1 : decide ((i : Int) < (l0.length : Int)) = false := decide_eq_false (by omega)
      have h1 := HM.out
      rw [hi, List.take_length] at h1
      have HM2 := aK h1
      clear h1 HM
      go_wp2
      go_ret
      exact ⟨_, rfl, Nat.le_refl _, HM2.out, HB.out⟩

end Go.Proofs.YtgadbpljlpclnaaGreatDoor.H
