import Derived.Test.YtobdkgoapcbipaaGreatDoorJx0
import Derived.Test.YtobdkgoapcbipaaGreatDoorJx1
import Derived.Test.YtobdkgoapcbipaaGreatDoorJx14
namespace Go.Proofs.YtobdkgoapcbipaaGreatDoor.J
open Go.RowKit Go.Proofs.YtobdkgoapcbipaaGreatDoorW.PrintWords Go.Proofs.YtobdkgoapcbipaaGreatDoorW.PrintLast Go.Proofs.YtobdkgoapcbipaaGreatDoorW.PrintMore
set_option maxHeartbeats 4000000
set_option maxRecDepth 100000
attribute [local go_sem] max2_int min2_int max_two min_two max_three min_three max_four min_four
set_option linter.unusedVariables false
set_option linter.unusedSimpArgs false

/-! ### r43_inside: function 39 -/
mutual
def r43_inside.j1 : Nat → List (S36) → List ByteArray → Option (List ByteArray)
|0,_,_ => none
|k + 1,x0,x5 => r43_inside.l1 k x0 x5 0
def r43_inside.l1 : Nat → List (S36) → List ByteArray → Int → Option (List ByteArray)
|0,_,_,_ => none
|k + 1,x0,x5,x8 => if x8 < (x0.length : Int) then ((r43_below.f k x0 x5).bind fun aa => (r43_inside.l1 k x0 aa (wrap64 (x8 + 1)))) else (some x5)
def r43_inside.l0 : Nat → List (S36) → List ByteArray → Int → Int → Option (List ByteArray)
|0,_,_,_,_ => none
|k + 1,x0,x5,x6,x7 => if x6 ≥ 0 then (if 0 ≤ x6 then (if x6 < (x0.length : Int) then (if x7 < (((rd_T36 x0 x6).f2).length : Int) then (if 0 ≤ x7 then ((r26_PutText.f k x5 (rdOf ByteArray.empty ((rd_T36 x0 x6).f2) x7)).bind fun aa => (r43_inside.l0 k x0 aa x6 (wrap64 (x7 + 1)))) else (none)) else (r43_inside.j1 k x0 x5)) else (none)) else (none)) else (r43_inside.j1 k x0 x5)
end
def r43_inside.f (k : Nat) (l0 : List (S36)) (a1 : ByteArray) : Option (List ByteArray) := (r43_at.f k l0 a1).bind fun aa => (r43_inside.l0 k l0 (([] : List ByteArray)) aa 0)
theorem r43_inside.mono_l : ∀ k, (∀ y0 y1, LeO (r43_inside.j1 k y0 y1) (r43_inside.j1 (k + 1) y0 y1)) ∧ (∀ y0 y1 y2, LeO (r43_inside.l1 k y0 y1 y2) (r43_inside.l1 (k + 1) y0 y1 y2)) ∧ (∀ y0 y1 y2 y3, LeO (r43_inside.l0 k y0 y1 y2 y3) (r43_inside.l0 (k + 1) y0 y1 y2 y3))
|0 => ⟨fun _ _ r h => by simp [r43_inside.j1] at h,fun _ _ _ r h => by simp [r43_inside.l1] at h,fun _ _ _ _ r h => by simp [r43_inside.l0] at h⟩
|k + 1 => by
  obtain ⟨ih0,ih1,ih2⟩ := r43_inside.mono_l k
  refine ⟨?_,?_,?_⟩
  ·intro y0 y1
   unfold r43_inside.j1
   repeat' (with_reducible first|exact ih1 _ _ _|exact LeO.refl _|exact LeO.none _|refine LeO.ite ?_ ?_|refine LeO.bind ?_ (fun _ => ?_))
  ·intro y0 y1 y2
   unfold r43_inside.l1
   repeat' (with_reducible first|exact ih1 _ _ _|exact r43_below.mono _ _ _|exact LeO.refl _|exact LeO.none _|refine LeO.ite ?_ ?_|refine LeO.bind ?_ (fun _ => ?_))
  ·intro y0 y1 y2 y3
   unfold r43_inside.l0
   repeat' (with_reducible first|exact ih0 _ _|exact ih2 _ _ _ _|exact r26_PutText.mono _ _ _|exact LeO.refl _|exact LeO.none _|refine LeO.ite ?_ ?_|refine LeO.bind ?_ (fun _ => ?_))
theorem r43_inside.mono : ∀ a0 a1 k, LeO (r43_inside.f k a0 a1) (r43_inside.f (k + 1) a0 a1) := by
 intro a0 a1 k
 obtain ⟨ih0,ih1,ih2⟩ := r43_inside.mono_l k
 unfold r43_inside.f
 repeat' (with_reducible first|exact ih0 _ _|exact ih1 _ _ _|exact ih2 _ _ _ _|exact r26_PutText.mono _ _ _|exact r43_at.mono _ _ _|exact r43_below.mono _ _ _|exact LeO.refl _|exact LeO.none _|refine LeO.ite ?_ ?_|refine LeO.bind ?_ (fun _ => ?_))
theorem r43_inside.calls (k : Nat) (A0 : Option Addr) (c0 : Nat) (l0 : List (S36)) (a1 : ByteArray) (r : List ByteArray) (w : World) (bx : Kd.C k36 w A0 l0.length l0) (bz : l0.length ≤ c0) (h : r43_inside.f k l0 a1 = some r) :
  Calls Tryz.prog 39 #[.slice A0 l0.length c0,.string a1] w fun e w' => ∃ bB : Value,e = .returned (bB) ∧ Kd.V Kd.string 9 w' w.heap.size (fun k_ => (w.heap.size ≤ k_)) bB r ∧ Below w.heap.size w w' := by
 have aX := aK bx
 have bC := aK bz
 clear bx bz
 have HB := aK (Below.refl w.heap.size w)
 have H : ((r43_at.f k l0 a1).bind fun ac => (r43_inside.l0 k l0 (([] : List ByteArray)) ac 0)) = some r := h
 clear h
 obtain ⟨aY,aq⟩ : ∃ y_ : List ByteArray,y_ = (([] : List ByteArray)) := ⟨_,rfl⟩
 replace H : ((r43_at.f k l0 a1).bind fun ac => (r43_inside.l0 k l0 aY ac 0)) = some r := by first|(rw [aq];with_reducible exact H)|(have bg := (Option.bind_some _ _).symm.trans H;rw [aq];with_reducible exact bg)|(have bg := (Option.bind_some _ _).symm.trans H;with_reducible exact bg)|with_reducible exact H|(rw [aq];exact H)|exact H
 have aO := aK aq
 clear aq
 replace H := Option.bind_eq_some_iff.mp H
 obtain ⟨ac,bD,H⟩ := H
 have A3 := aK bD
 clear bD
 have bh := aK H
 clear H
 go_enter Tryz.func39,Tryz.ntmps39
 go_upto_block 0 with (first|((with_reducible refine gate_dst (N := 9) rfl ?_);(try (refine gate_guard (by rfl) ?_;dsimp only));refine Kd.R_lit Kd.string _ 9 ?hg (N := 9) ?hd (xs := ([] : List ByteArray)) (inner := []) (ok := fun _ => True) (okp := fun _ => True) ?hr ?hp (fun _ hk => hk) trivial (Below.refl _ _) (Nat.le_refl _) (by simp) ?_;(case hd => rfl);(case hg => rfl);(case hr => first|(go_simp;done)|(go_simp;rfl));(case hp => exact (Reps.none _ _));intro bK w5 aZ hb hg_ hnew_;clear hg_ hnew_;(first|rw [← aO.out] at aZ|(simp only [Int.reduceToNat] at aZ;rw [← aO.out] at aZ));have a0 := aK (Kd.R_lower (Kd.R_newM (M := fun k_ => (w.heap.size ≤ k_)) aZ (below_size (bM HB.out)) (fun k_ h_ => h_)) (below_size (bM HB.out)));replace HB := aK (below_step (bM HB.out) hb);clear hb aZ)|((with_reducible refine gate_callee (f := 36) rfl ?_);refine gL 12 Tryz.func36 #[.slice A0 l0.length c0,.string a1] ?_;(with_reducible refine (r43_at.calls k _ _ l0 a1 ac _ ?ar ?au A3.out).mono ?_);(case ar => exact cM (Kd.C_below aX.out HB.out));(case au => exact bC.out);rintro e w' ⟨rfl,⟨nd,rfl⟩⟩;refine ⟨_,rfl,?_⟩))
 (try simp only [Act.put,z1_,z2_,z3_])
 go_cut [5] (fun v5 wc => ∃ (kq : Nat) (aH : List ByteArray),Aside0 (r43_inside.j1 kq l0 aH = some r) ∧ Aside0 (kq ≤ k) ∧ Aside0 (Kd.V Kd.string 9 wc w.heap.size (fun k_ => (w.heap.size ≤ k_)) v5 aH) ∧ Aside0 (Below w.heap.size w wc))
 case first =>
  have H := bh.out
  clear bh
  have H' := aK H
  clear H
  go_wp2
  go_loopg [5,7] k (fun kq v5 v7 w' => ∃ (av : List ByteArray) (an : Int),v7 = .int .i64 an ∧ Aside0 (r43_inside.l0 kq l0 av ac an = some r) ∧ Aside0 (kq ≤ k) ∧ Aside0 (Kd.V Kd.string 9 w' w.heap.size (fun k_ => (w.heap.size ≤ k_)) v5 av) ∧ Aside0 (Below w.heap.size w w'))
  case atStart => exact ⟨(aY),(0),(by first|rfl|(simp;done)|(simp [*];done)),H',⟨Nat.le_refl _⟩,⟨Kd.R_V (by (with_reducible repeat (first|apply Kd.R_alloc|apply Kd.R_drewN|apply Kd.R_drew));exact Kd.R_mono a0.out (fun _ hk => hk.1))⟩,⟨bM HB.out⟩⟩
  case round =>
   clear H'
   try clear p2
   obtain ⟨av,an,rfl,HA,bc,ae,HB⟩ := hrel
   cases gk with
  |zero => exact absurd HA.out (by simp [r43_inside.l0])
  |succ k1 =>
    have H := HA.out
    clear HA
    simp only [r43_inside.l0] at H
    by_cases c7 : ac ≥ 0
    ·rw [if_pos c7] at H
     have aA := decide_eq_true c7
     clear c7
     (first|rw [aA]|(simp only [i64_w,i32_w];rw [aA])|rw [c7b1]|skip)
     obtain ⟨c8,H⟩ := iS H
     have bL := decide_eq_true c8
     clear c8
     obtain ⟨c9,H⟩ := iS H
     have bN := decide_eq_true c9
     clear c9
     by_cases c10 : an < (((rd_T36 l0 ac).f2).length : Int)
     ·rw [if_pos c10] at H
      have a2 := decide_eq_true c10
      clear c10
      obtain ⟨bE,H⟩ := iS H
      have bF := decide_eq_true bE
      clear bE
      replace H := Option.bind_eq_some_iff.mp H
      obtain ⟨a3,a4,H⟩ := H
      have bO := aK a4
      clear a4
      have H' := aK H
      clear H
      have ao : 0 ≤ (ac : Int) := dA
      have ap : ac < (l0.length : Int) := dA
      obtain ⟨aP,aQ,aR,aS,aT,aU,ad,aa,ab,af,ag,ah,ai⟩ := at_T36 aX.out ac ao ap
      cases aU
      replace ad := xM HB ad
      replace aa := xM HB aa
      replace ab := xM HB ab
      have aI := aK ag
      have aJ := aK af
      clear ag af
      have aL := aK ai
      have aM := aK ah
      clear ai ah
      replace ao := eq_true ao
      replace ap := eq_true ap
      have aB : 0 ≤ (ac : Int) := dA
      have aC : ac < (l0.length : Int) := dA
      obtain ⟨a5,bi,bj,bk,bm,bn,al,aj,ak,aw,ax,ay,az⟩ := at_T36 aX.out ac aB aC
      obtain rfl : aP = a5 := (by injection bn)
      replace al := xM HB al
      replace aj := xM HB aj
      replace ak := xM HB ak
      have bd := aK ax
      have be := aK aw
      clear ax aw
      have aN := aK az
      have bf := aK ay
      clear az ay
      replace aB := eq_true aB
      replace aC := eq_true aC
      have ea_ := Option.some.inj (aa.symm.trans aj)
      injection ea_ with ea_ en_ ec_
      subst ea_
      subst ec_
      clear en_
      have ea_ := Option.some.inj (ab.symm.trans ak)
      injection ea_ with ea_ en_ ec_
      subst ea_
      subst ec_
      clear en_
      have aD : 0 ≤ (an : Int) := dA
      have aE : an < (((rd_T36 l0 ac).f2).length : Int) := dA
      obtain ⟨bH,bo,am⟩ := Kd.at_string aN.out an aD aE
      cases bo
      replace am := xM HB am
      replace aD := eq_true aD
      replace aE := eq_true aE
      obtain ⟨bp,bq,br⟩ := Kd.V_slice ae.out
      subst br
      go_wp2_with (first|((with_reducible refine gate_callee (f := 46) rfl ?_);refine gL 36 Tryz.func46 #[.slice bp av.length bq,.string (rdOf ByteArray.empty ((rd_T36 l0 ac).f2) an)] ?_;(with_reducible refine (r26_PutText.calls k1 _ _ av (rdOf ByteArray.empty ((rd_T36 l0 ac).f2) an) a3 _ ?ar ?au bO.out).mono ?_);(case ar => exact cM (Kd.V_reads' ae.out).2.2);(case au => exact (Kd.V_reads' ae.out).2.1);rintro e bS ⟨bP,rfl,aV,hb⟩;refine ⟨_,rfl,?_⟩;replace ae := aK (Kd.V_elder' (vM ae.out) (Kd.R_base aV) hb);have a6 := aK (Kd.R_lower (Kd.R_newM (M := fun k_ => (w.heap.size ≤ k_)) aV (below_size (bM HB.out)) (fun k_ h_ => h_)) (below_size (bM HB.out)));replace HB := aK (below_step (bM HB.out) hb);(try clear hb);(try clear hk);(try clear aV)))
      go_roundg k1
      case measure => have := bc.out;omega
      case rel => exact ⟨(a3),(wrap64 (an + 1)),(by first|rfl|(simp;done)|(simp [*];done)),H',⟨by have := bc.out;omega⟩,⟨Kd.R_V (by (with_reducible repeat (first|apply Kd.R_alloc|apply Kd.R_drewN|apply Kd.R_drew));exact Kd.R_mono a6.out (fun _ hk => hk.1))⟩,⟨bM HB.out⟩⟩
     ·rw [if_neg c10] at H
      have a2 := decide_eq_false c10
      clear c10
      have H' := aK H
      clear H
      have ao : 0 ≤ (ac : Int) := dA
      have ap : ac < (l0.length : Int) := dA
      obtain ⟨aP,aQ,aR,aS,aT,aU,ad,aa,ab,af,ag,ah,ai⟩ := at_T36 aX.out ac ao ap
      cases aU
      replace ad := xM HB ad
      replace aa := xM HB aa
      replace ab := xM HB ab
      have aI := aK ag
      have aJ := aK af
      clear ag af
      have aL := aK ai
      have aM := aK ah
      clear ai ah
      replace ao := eq_true ao
      replace ap := eq_true ap
      go_wp2
      go_meet
      case rel => exact ⟨_,(av),H',⟨by have := bc.out;first|omega|exact Nat.le_refl _⟩,⟨vM ae.out⟩,⟨bM HB.out⟩⟩
    ·rw [if_neg c7] at H
     have aA := decide_eq_false c7
     clear c7
     (first|rw [aA]|(simp only [i64_w,i32_w];rw [aA])|rw [c7b1]|skip)
     have H' := aK H
     clear H
     go_wp2
     go_meet
     case rel => exact ⟨_,(av),H',⟨by have := bc.out;first|omega|exact Nat.le_refl _⟩,⟨vM ae.out⟩,⟨bM HB.out⟩⟩
 case rest =>
  clear bh
  try clear p2
  try clear p3
  try clear q3
  try clear hx3
  try clear p6
  try clear ad
  try clear aa
  try clear ab
  try clear al
  try clear aj
  try clear ak
  try clear am
  try clear p2
  try clear ao
  try clear aB
  try clear aD
  try clear ap
  try clear aC
  try clear aE
  obtain ⟨kq,aH,HA,bI,ae,HB⟩ := hcut
  cases kq with
 |zero => exact absurd HA.out (by simp [r43_inside.j1])
 |succ kj3 =>
   have H := HA.out
   clear HA
   simp only [r43_inside.j1] at H
   have H' := aK H
   clear H
   go_wp2
   go_loopg [5,8] kj3 (fun kq v5 v8 w' => ∃ (aF : List ByteArray) (aG : Int),v8 = .int .i64 aG ∧ Aside0 (r43_inside.l1 kq l0 aF aG = some r) ∧ Aside0 (kq ≤ kj3) ∧ Aside0 (Kd.V Kd.string 9 w' w.heap.size (fun k_ => (w.heap.size ≤ k_)) v5 aF) ∧ Aside0 (Below w.heap.size w w'))
   case atStart => exact ⟨(aH),(0),(by first|rfl|(simp;done)|(simp [*];done)),H',⟨Nat.le_refl _⟩,⟨vM ae.out⟩,⟨bM HB.out⟩⟩
   case round =>
    clear H'
    try clear p2
    try clear p3
    try clear q3
    try clear hx3
    try clear p6
    try clear ad
    try clear aa
    try clear ab
    try clear al
    try clear aj
    try clear ak
    try clear am
    try clear p2
    try clear p3
    try clear ao
    try clear aB
    try clear aD
    try clear p6
    try clear q3
    try clear ap
    try clear aC
    try clear aE
    obtain ⟨aF,aG,rfl,HA,bJ,ae,HB⟩ := hrel
    cases gk with
   |zero => exact absurd HA.out (by simp [r43_inside.l1])
   |succ k2 =>
     have H := HA.out
     clear HA
     simp only [r43_inside.l1] at H
     by_cases aW : aG < (l0.length : Int)
     ·rw [if_pos aW] at H
      have a7 := decide_eq_true aW
      clear aW
      replace H := Option.bind_eq_some_iff.mp H
      obtain ⟨a8,a9,H⟩ := H
      have bQ := aK a9
      clear a9
      have H' := aK H
      clear H
      obtain ⟨bs,bu,bv⟩ := Kd.V_slice ae.out
      subst bv
      go_wp2_with (first|((with_reducible refine gate_callee (f := 61) rfl ?_);refine gL 45 Tryz.func61 #[.slice A0 l0.length c0,.slice bs aF.length bu] ?_;(with_reducible refine (r43_below.calls k2 _ _ l0 (fun k_ => (w.heap.size ≤ k_)) _ _ aF a8 _ ?ar ?au ?ba bQ.out).mono ?_);(case ar => exact cM (Kd.C_below aX.out HB.out));(case au => exact bC.out);(case ba => exact ae.out);rintro e bT ⟨bR,rfl,aV,hb⟩;refine ⟨_,rfl,?_⟩;replace ae := aK (Kd.V_below (vM ae.out) hb);have bb := aK (Kd.V_lower (Kd.V_mono (ok' := fun k_ => (w.heap.size ≤ k_)) aV (fun k_ hk_ => Or.elim hk_ (fun hs_ => hs_) (fun hn_ => (Nat.le_trans (below_size (bM HB.out)) hn_)))) (below_size (bM HB.out)));replace HB := aK (below_step (bM HB.out) hb);(try clear hb);(try clear hk);(try clear aV)))
      go_roundg k2
      case measure => have := bI.out;have := bJ.out;omega
      case rel => exact ⟨(a8),(wrap64 (aG + 1)),(by first|rfl|(simp;done)|(simp [*];done)),H',⟨by have := bI.out;have := bJ.out;omega⟩,⟨vM bb.out⟩,⟨bM HB.out⟩⟩
     ·rw [if_neg aW] at H
      have a7 := decide_eq_false aW
      clear aW
      obtain rfl := Option.some.inj H
      go_wp2
      go_ret
      exact ⟨_,by first|rfl|(simp [errW_none,errW_some] <;> rfl)|(simp [*,errW_none,errW_some] <;> rfl),vM ae.out,bM HB.out⟩

/-! ### r43_depth: function 40 -/
mutual
def r43_depth.l0 : Nat → List (S36) → Int → Int → Int → Option (Int)
|0,_,_,_,_ => none
|k + 1,x0,x5,x6,x7 => if 0 ≤ x5 then (if x5 < (x0.length : Int) then (if x7 < (((rd_T36 x0 x5).f2).length : Int) then (if 0 ≤ x7 then ((r43_depth.f k x0 (rdOf ByteArray.empty ((rd_T36 x0 x5).f2) x7)).bind fun aa => (if aa > x6 then (r43_depth.l0 k x0 x5 aa (wrap64 (x7 + 1))) else (r43_depth.l0 k x0 x5 x6 (wrap64 (x7 + 1))))) else (none)) else (some (wrap64 (x6 + 1)))) else (none)) else (none)
def r43_depth.f : Nat → List (S36) → ByteArray → Option (Int)
|0,_,_ => none
|k + 1,l0,a1 => (r43_at.f k l0 a1).bind fun aa => (if aa < 0 then (some 0) else (r43_depth.l0 k l0 aa 0 0))
end
theorem r43_depth.mono_l : ∀ k, (∀ y0 y1, LeO (r43_depth.f k y0 y1) (r43_depth.f (k + 1) y0 y1)) ∧ (∀ y0 y1 y2 y3, LeO (r43_depth.l0 k y0 y1 y2 y3) (r43_depth.l0 (k + 1) y0 y1 y2 y3))
|0 => ⟨fun _ _ r h => by simp [r43_depth.f] at h,fun _ _ _ _ r h => by simp [r43_depth.l0] at h⟩
|k + 1 => by
  obtain ⟨ih0,ih1⟩ := r43_depth.mono_l k
  refine ⟨?_,?_⟩
  ·intro y0 y1
   unfold r43_depth.f
   repeat' (with_reducible first|exact ih1 _ _ _ _|exact r43_at.mono _ _ _|exact LeO.refl _|exact LeO.none _|refine LeO.ite ?_ ?_|refine LeO.bind ?_ (fun _ => ?_))
  ·intro y0 y1 y2 y3
   unfold r43_depth.l0
   repeat' (with_reducible first|exact ih0 _ _|exact ih1 _ _ _ _|exact LeO.refl _|exact LeO.none _|refine LeO.ite ?_ ?_|refine LeO.bind ?_ (fun _ => ?_))
theorem r43_depth.mono : ∀ a0 a1 k, LeO (r43_depth.f k a0 a1) (r43_depth.f (k + 1) a0 a1) := by
 intro a0 a1 k
 obtain ⟨ih0,ih1⟩ := r43_depth.mono_l k
 exact ih0 a0 a1
theorem r43_depth.calls (k : Nat) : ∀ (A0 : Option Addr) (c0 : Nat) (l0 : List (S36)) (a1 : ByteArray) (r : Int) (w : World) (a6 : Kd.C k36 w A0 l0.length l0) (a7 : l0.length ≤ c0) (h : r43_depth.f k l0 a1 = some r),
  Calls Tryz.prog 40 #[.slice A0 l0.length c0,.string a1] w fun e w' => e = .returned (.int .i64 r) ∧ Drawn0 w w' := by
 induction k using Nat.strongRecOn with
|_ k ih =>
 intro A0 c0 l0 a1 r w a6 a7 h
 cases k with
|zero => exact absurd h (by simp [r43_depth.f])
|succ k =>
 simp only [r43_depth.f] at h
 have aN := aK a6
 have a5 := aK a7
 clear a6 a7
 have H : ((r43_at.f k l0 a1).bind fun aa => (if aa < 0 then (some 0) else (r43_depth.l0 k l0 aa 0 0))) = some r := h
 clear h
 replace H := Option.bind_eq_some_iff.mp H
 obtain ⟨aa,a9,H⟩ := H
 have A3 := aK a9
 clear a9
 by_cases c4 : aa < 0
 ·rw [if_pos c4] at H
  have a2 := decide_eq_true c4
  clear c4
  obtain rfl := Option.some.inj H
  go_enter Tryz.func40,Tryz.ntmps40
  go_wp2_with (first|((with_reducible refine gate_callee (f := 36) rfl ?_);refine gL 11 Tryz.func36 #[.slice A0 l0.length c0,.string a1] ?_;(with_reducible refine (r43_at.calls k _ _ l0 a1 aa _ ?am ?an A3.out).mono ?_);(case am => exact cM aN.out);(case an => exact a5.out);rintro e w' ⟨rfl,⟨nd,rfl⟩⟩;refine ⟨_,rfl,?_⟩))
  go_ret
  exact ⟨by first|rfl|(simp;done)|(simp [*];done),by repeat (first|exact Drawn0.refl _|apply Drawn0.step)⟩
 ·rw [if_neg c4] at H
  have a2 := decide_eq_false c4
  clear c4
  have H' := aK H
  clear H
  go_enter Tryz.func40,Tryz.ntmps40
  go_wp2_with (first|((with_reducible refine gate_callee (f := 36) rfl ?_);refine gL 11 Tryz.func36 #[.slice A0 l0.length c0,.string a1] ?_;(with_reducible refine (r43_at.calls k _ _ l0 a1 aa _ ?am ?an A3.out).mono ?_);(case am => exact cM aN.out);(case an => exact a5.out);rintro e w' ⟨rfl,⟨nd,rfl⟩⟩;refine ⟨_,rfl,?_⟩))
  go_loopg [6,7] k (fun kq v6 v7 w' => ∃ (aF : Int) (af : Int),v6 = .int .i64 aF ∧ v7 = .int .i64 af ∧ Aside0 (r43_depth.l0 kq l0 aa aF af = some r) ∧ Aside0 (kq ≤ k) ∧ Drawn0 w w')
  case atStart => exact ⟨(0),(0),(by first|rfl|(simp;done)|(simp [*];done)),(by first|rfl|(simp;done)|(simp [*];done)),H',⟨Nat.le_refl _⟩,by repeat (first|exact Drawn0.refl _|apply Drawn0.step)⟩
  case round =>
   clear H'
   try clear p2
   try clear c4
   try clear a2
   obtain ⟨aF,af,rfl,rfl,HA,a0,⟨m1,rfl⟩⟩ := hrel
   cases gk with
  |zero => exact absurd HA.out (by simp [r43_depth.l0])
  |succ k1 =>
    have H := HA.out
    clear HA
    simp only [r43_depth.l0] at H
    by_cases c5 : 0 ≤ aa
    ·rw [if_pos c5] at H
     have bb := decide_eq_true c5
     clear c5
     obtain ⟨c6,H⟩ := iS H
     have bc := decide_eq_true c6
     clear c6
     by_cases c7 : af < (((rd_T36 l0 aa).f2).length : Int)
     ·rw [if_pos c7] at H
      have a8 := decide_eq_true c7
      clear c7
      obtain ⟨c8,H⟩ := iS H
      have bd := decide_eq_true c8
      clear c8
      replace H := Option.bind_eq_some_iff.mp H
      obtain ⟨aO,ba,H⟩ := H
      have A9 := aK ba
      clear ba
      by_cases c10 : aO > aF
      ·rw [if_pos c10] at H
       have a3 := decide_eq_true c10
       clear c10
       have H' := aK H
       clear H
       have ao : 0 ≤ (aa : Int) := dA
       have ap : aa < (l0.length : Int) := dA
       obtain ⟨aq,aG,aH,aI,aJ,aL,aA,ak,al,ab,ac,ad,ae⟩ := at_T36 aN.out aa ao ap
       cases aL
       have aB := aK ac
       have aC := aK ab
       clear ac ab
       have aD := aK ae
       have aE := aK ad
       clear ae ad
       replace ao := eq_true ao
       replace ap := eq_true ap
       have aw : 0 ≤ (aa : Int) := dA
       have ax : aa < (l0.length : Int) := dA
       obtain ⟨aM,aU,aV,aW,aX,aY,aP,ar,au,ag,ah,ai,aj⟩ := at_T36 aN.out aa aw ax
       obtain rfl : aq = aM := (by injection aY)
       have aQ := aK ah
       have aR := aK ag
       clear ah ag
       have av := aK aj
       have aS := aK ai
       clear aj ai
       replace aw := eq_true aw
       replace ax := eq_true ax
       have ea_ := Option.some.inj (ak.symm.trans ar)
       injection ea_ with ea_ en_ ec_
       subst ea_
       subst ec_
       clear en_
       have ea_ := Option.some.inj (al.symm.trans au)
       injection ea_ with ea_ en_ ec_
       subst ea_
       subst ec_
       clear en_
       have ay : 0 ≤ (af : Int) := dA
       have az : af < (((rd_T36 l0 aa).f2).length : Int) := dA
       obtain ⟨a4,aZ,aT⟩ := Kd.at_string av.out af ay az
       cases aZ
       replace ay := eq_true ay
       replace az := eq_true az
       go_wp2_with (first|((with_reducible refine gate_callee (f := 40) rfl ?_);refine gL 33 Tryz.func40 #[.slice (some aq) l0.length c0,.string (rdOf ByteArray.empty ((rd_T36 l0 aa).f2) af)] ?_;(with_reducible refine (ih k1 (by have := a0.out;omega) _ _ l0 (rdOf ByteArray.empty ((rd_T36 l0 aa).f2) af) aO _ ?am ?an A9.out).mono ?_);(case am => exact cM aN.out);(case an => exact a5.out);rintro e w' ⟨rfl,⟨nd,rfl⟩⟩;refine ⟨_,rfl,?_⟩))
       go_roundg k1
       case measure => have := a0.out;omega
       case rel => exact ⟨(aO),(wrap64 (af + 1)),(by first|rfl|(simp;done)|(simp [*];done)),(by first|rfl|(simp;done)|(simp [*];done)),H',⟨by have := a0.out;omega⟩,by repeat (first|exact Drawn0.refl _|apply Drawn0.step)⟩
      ·rw [if_neg c10] at H
       have a3 := decide_eq_false c10
       clear c10
       have H' := aK H
       clear H
       have ao : 0 ≤ (aa : Int) := dA
       have ap : aa < (l0.length : Int) := dA
       obtain ⟨aq,aG,aH,aI,aJ,aL,aA,ak,al,ab,ac,ad,ae⟩ := at_T36 aN.out aa ao ap
       cases aL
       have aB := aK ac
       have aC := aK ab
       clear ac ab
       have aD := aK ae
       have aE := aK ad
       clear ae ad
       replace ao := eq_true ao
       replace ap := eq_true ap
       have aw : 0 ≤ (aa : Int) := dA
       have ax : aa < (l0.length : Int) := dA
       obtain ⟨aM,aU,aV,aW,aX,aY,aP,ar,au,ag,ah,ai,aj⟩ := at_T36 aN.out aa aw ax
       obtain rfl : aq = aM := (by injection aY)
       have aQ := aK ah
       have aR := aK ag
       clear ah ag
       have av := aK aj
       have aS := aK ai
       clear aj ai
       replace aw := eq_true aw
       replace ax := eq_true ax
       have ea_ := Option.some.inj (ak.symm.trans ar)
       injection ea_ with ea_ en_ ec_
       subst ea_
       subst ec_
       clear en_
       have ea_ := Option.some.inj (al.symm.trans au)
       injection ea_ with ea_ en_ ec_
       subst ea_
       subst ec_
       clear en_
       have ay : 0 ≤ (af : Int) := dA
       have az : af < (((rd_T36 l0 aa).f2).length : Int) := dA
       obtain ⟨a4,aZ,aT⟩ := Kd.at_string av.out af ay az
       cases aZ
       replace ay := eq_true ay
       replace az := eq_true az
       go_wp2_with (first|((with_reducible refine gate_callee (f := 40) rfl ?_);refine gL 33 Tryz.func40 #[.slice (some aq) l0.length c0,.string (rdOf ByteArray.empty ((rd_T36 l0 aa).f2) af)] ?_;(with_reducible refine (ih k1 (by have := a0.out;omega) _ _ l0 (rdOf ByteArray.empty ((rd_T36 l0 aa).f2) af) aO _ ?am ?an A9.out).mono ?_);(case am => exact cM aN.out);(case an => exact a5.out);rintro e w' ⟨rfl,⟨nd,rfl⟩⟩;refine ⟨_,rfl,?_⟩))
       go_roundg k1
       case measure => have := a0.out;omega
       case rel => exact ⟨(aF),(wrap64 (af + 1)),(by first|rfl|(simp;done)|(simp [*];done)),(by first|rfl|(simp;done)|(simp [*];done)),H',⟨by have := a0.out;omega⟩,by repeat (first|exact Drawn0.refl _|apply Drawn0.step)⟩
     ·rw [if_neg c7] at H
      have a8 := decide_eq_false c7
      clear c7
      obtain rfl := Option.some.inj H
      have ao : 0 ≤ (aa : Int) := dA
      have ap : aa < (l0.length : Int) := dA
      obtain ⟨aq,aG,aH,aI,aJ,aL,aA,ak,al,ab,ac,ad,ae⟩ := at_T36 aN.out aa ao ap
      cases aL
      have aB := aK ac
      have aC := aK ab
      clear ac ab
      have aD := aK ae
      have aE := aK ad
      clear ae ad
      replace ao := eq_true ao
      replace ap := eq_true ap
      go_wp2
      go_ret
      exact ⟨by first|rfl|(simp;done)|(simp [*];done),by repeat (first|exact Drawn0.refl _|apply Drawn0.step)⟩
    ·rw [if_neg c5] at H
     exact absurd H (by simp)

end Go.Proofs.YtobdkgoapcbipaaGreatDoor.J
