import Derived.Test.YtmgliocboeifdaaDoorKx0
import Derived.Test.YtmgliocboeifdaaDoorKx8
namespace Go.Proofs.YtmgliocboeifdaaDoor.K
open Go.RowKit Go.Proofs.YtmgliocboeifdaaDoorW.PrintWords Go.Proofs.YtmgliocboeifdaaDoorW.PrintLast Go.Proofs.YtmgliocboeifdaaDoorW.PrintMore
set_option maxHeartbeats 4000000
set_option maxRecDepth 100000
attribute [local go_sem] max2_int min2_int max_two min_two max_three min_three max_four min_four
set_option linter.unusedVariables false
set_option linter.unusedSimpArgs false

/-! ### r33_SameAll: function 17 -/
def r33_SameAll.l0 : Nat → List (S37) → List (S37) → Int → Option (Bool)
|0,_,_,_ => none
|k + 1,x0,x1,x5 => if x5 < (x0.length : Int) then (if 0 ≤ x5 then (if x5 < (x1.length : Int) then ((r33_Same.f k ((rd_T37 x0 x5).f0) ((rd_T37 x0 x5).f1) ((rd_T37 x0 x5).f2) ((rd_T37 x0 x5).f3) ((rd_T37 x0 x5).f4) ((rd_T37 x0 x5).f5) ((rd_T37 x1 x5).f0) ((rd_T37 x1 x5).f1) ((rd_T37 x1 x5).f2) ((rd_T37 x1 x5).f3) ((rd_T37 x1 x5).f4) ((rd_T37 x1 x5).f5)).bind fun t311 => (if t311 = true then (r33_SameAll.l0 k x0 x1 (wrap64 (x5 + 1))) else (some false))) else (none)) else (none)) else (some true)
def r33_SameAll.f (k : Nat) (l0 : List (S37)) (l1 : List (S37)) : Option (Bool) := if (l0.length : Int) = (l1.length : Int) then (r33_SameAll.l0 k l0 l1 0) else (some false)
theorem r33_SameAll.mono_l : ∀ k, (∀ y0 y1 y2, LeO (r33_SameAll.l0 k y0 y1 y2) (r33_SameAll.l0 (k + 1) y0 y1 y2))
|0 => fun _ _ _ r h => by simp [r33_SameAll.l0] at h
|k + 1 => by
  have ih0 := r33_SameAll.mono_l k
  ·intro y0 y1 y2
   unfold r33_SameAll.l0
   repeat' (with_reducible first|exact ih0 _ _ _|exact r33_Same.mono _ _ _ _ _ _ _ _ _ _ _ _ _|exact LeO.refl _|exact LeO.none _|refine LeO.ite ?_ ?_|refine LeO.bind ?_ (fun _ => ?_))
theorem r33_SameAll.mono : ∀ a0 a1 k, LeO (r33_SameAll.f k a0 a1) (r33_SameAll.f (k + 1) a0 a1) := by
 intro a0 a1 k
 have ih0 := r33_SameAll.mono_l k
 unfold r33_SameAll.f
 repeat' first
  |(with_reducible exact ih0 _ _ _)
  |(with_reducible exact r33_Same.mono _ _ _ _ _ _ _ _ _ _ _ _ _)
  |(with_reducible exact LeO.refl _)
  |(with_reducible exact LeO.none _)
  |(with_reducible refine LeO.ite ?_ ?_)
  |(with_reducible refine LeO.bind ?_ (fun _ => ?_))
  |exact ih0 _ _ _
  |exact r33_Same.mono _ _ _ _ _ _ _ _ _ _ _ _ _
  |exact LeO.none _
  |refine LeO.ite ?_ ?_
  |refine LeO.bind ?_ (fun _ => ?_)
def r33_SameAll.T6 : Bool × List (List Nat × List Nat) := (true, [([], []), ([], []), ([0, 1], [0, 1]), ([2], [2]), ([], []), ([], []), ([4, 5], [4, 5]), ([6], [6]), ([3, 7], [3, 7]), ([8], [8])])
def r33_SameAll.B6 : List Nat := [0, 0, 3, 7, 0, 0, 48, 112, 255, 511]
theorem r33_SameAll.tab6 : rtab .any (opsOf Tryd.f17 6) = r33_SameAll.T6 := by kernel_rfl
theorem r33_SameAll.bits6 : waitsOk r33_SameAll.T6.2 r33_SameAll.B6 = true := by kernel_rfl
theorem r33_SameAll.calls (k : Nat) (A0 : Option Addr) (c0 : Nat) (l0 : List (S37)) (A1 : Option Addr) (c1 : Nat) (l1 : List (S37)) (r : Bool) (w : World) (bK : Kd.C k37 w A0 l0.length l0) (bL : l0.length ≤ c0) (bN : Kd.C k37 w A1 l1.length l1) (bO : l1.length ≤ c1) (h : r33_SameAll.f k l0 l1 = some r) :
  Calls Tryd.prog 17 #[.slice A0 l0.length c0,.slice A1 l1.length c1] w fun e w' => e = .returned (.bool r) ∧ Below w.heap.size w w' := by
 have bT := Tryd.underlying37
 have bP := aK bK
 have bW := aK bL
 clear bK bL
 have bQ := aK bN
 have bX := aK bO
 clear bN bO
 have HB := aK (Below.refl w.heap.size w)
 have H : (if (l0.length : Int) = (l1.length : Int) then (r33_SameAll.l0 k l0 l1 0) else (some false)) = some r := h
 clear h
 by_cases c3 : (l0.length : Int) = (l1.length : Int)
 ·rw [if_pos c3] at H
  have bC := beq_iff_eq.mpr c3
  have bD := bne_eq_false_iff_eq.mpr c3
  have bE : (l0.length == l1.length) = true := by first|simpa using c3|(simp at c3 ⊢;omega)
  clear c3
  have H' := aK H
  clear H
  go_enter Tryd.func17,Tryd.ntmps17
  go_wp2
  go_loopg [5] k (fun kq v5 w' => ∃ (aa : Int),v5 = .int .i64 aa ∧ Aside0 (r33_SameAll.l0 kq l0 l1 aa = some r) ∧ Aside0 (kq ≤ k) ∧ Aside0 (Below w.heap.size w w'))
  case atStart => exact ⟨(0),(by first|rfl|(simp;done)|(simp [*];done)),H',⟨Nat.le_refl _⟩,⟨bM HB.out⟩⟩
  case round =>
   clear H'
   try clear p2
   try clear c3
   try clear bC
   try clear bD
   try clear bE
   obtain ⟨aa,rfl,HA,bR,HB⟩ := hrel
   cases gk with
  |zero => exact absurd HA.out (by simp [r33_SameAll.l0])
  |succ k1 =>
    have H := HA.out
    clear HA
    simp only [r33_SameAll.l0] at H
    by_cases c4 : aa < (l0.length : Int)
    ·rw [if_pos c4] at H
     have bF := decide_eq_true c4
     clear c4
     obtain ⟨c5,H⟩ := iS H
     have bU := decide_eq_true c5
     clear c5
     obtain ⟨c6,H⟩ := iS H
     have bV := decide_eq_true c6
     clear c6
     replace H := Option.bind_eq_some_iff.mp H
     obtain ⟨bH,bS,H⟩ := H
     have A7 := aK bS
     clear bS
     by_cases c8 : bH = true
     ·subst c8
      rw [if_pos rfl] at H
      have H' := aK H
      clear H
      try go_wp2
      have bm := aK (below_drew1 HB.out)
      clear HB
      have HB := bm
      clear bm
      have be : 0 ≤ (aa : Int) := dA
      have bf : aa < (l0.length : Int) := dA
      obtain ⟨ab,aW,aX,aY,aZ,a0,a1,bz,ad,ae,af,ag,ah,ai,aD,aE,aF,aG,aH,aI⟩ := at_T37 bP.out aa be bf
      have aj := ai
      have ak := ah
      have al := ag
      have am := af
      have an := ae
      have ao := ad
      cases bz
      replace ad := xM HB ad
      replace ae := xM HB ae
      replace af := xM HB af
      replace ag := xM HB ag
      replace ah := xM HB ah
      replace ai := xM HB ai
      have aJ := aK aE
      have a8 := aK aD
      clear aE aD
      have aL := aK aG
      have a9 := aK aF
      clear aG aF
      have aM := aK aI
      have ba := aK aH
      clear aI aH
      replace be := eq_true be
      replace bf := eq_true bf
      have bg : 0 ≤ (aa : Int) := dA
      have bh : aa < (l1.length : Int) := dA
      obtain ⟨ac,a2,a3,a4,a5,a6,a7,bB,ap,aq,ar,au,av,aw,aN,aO,aP,aQ,aR,aS⟩ := at_T37 bQ.out aa bg bh
      have ax := aw
      have ay := av
      have az := au
      have aA := ar
      have aB := aq
      have aC := ap
      cases bB
      replace ap := xM HB ap
      replace aq := xM HB aq
      replace ar := xM HB ar
      replace au := xM HB au
      replace av := xM HB av
      replace aw := xM HB aw
      have aT := aK aO
      have bb := aK aN
      clear aO aN
      have aU := aK aQ
      have bc := aK aP
      clear aQ aP
      have aV := aK aS
      have bd := aK aR
      clear aS aR
      replace bg := eq_true bg
      replace bh := eq_true bh
      refine start_ (n := 10) (S := fun w' => w'.cell? (ab.add ((aa).toNat * 6)) = some (.int .i64 ((rd_T37 l0 aa).f0)) ∧ w'.cell? ⟨(ab.add ((aa).toNat * 6)).block,(ab.add ((aa).toNat * 6)).off + 1,none⟩ = some (.int .i64 ((rd_T37 l0 aa).f1)) ∧ w'.cell? ⟨(ab.add ((aa).toNat * 6)).block,(ab.add ((aa).toNat * 6)).off + 2,none⟩ = some (.int .i64 ((rd_T37 l0 aa).f2)) ∧ w'.cell? ⟨(ab.add ((aa).toNat * 6)).block,(ab.add ((aa).toNat * 6)).off + 3,none⟩ = some (.slice aW ((rd_T37 l0 aa).f3).length aX) ∧ w'.cell? ⟨(ab.add ((aa).toNat * 6)).block,(ab.add ((aa).toNat * 6)).off + 4,none⟩ = some (.slice aY ((rd_T37 l0 aa).f4).length aZ) ∧ w'.cell? ⟨(ab.add ((aa).toNat * 6)).block,(ab.add ((aa).toNat * 6)).off + 5,none⟩ = some (.slice a0 ((rd_T37 l0 aa).f5).length a1) ∧ w'.cell? (ac.add ((aa).toNat * 6)) = some (.int .i64 ((rd_T37 l1 aa).f0)) ∧ w'.cell? ⟨(ac.add ((aa).toNat * 6)).block,(ac.add ((aa).toNat * 6)).off + 1,none⟩ = some (.int .i64 ((rd_T37 l1 aa).f1)) ∧ w'.cell? ⟨(ac.add ((aa).toNat * 6)).block,(ac.add ((aa).toNat * 6)).off + 2,none⟩ = some (.int .i64 ((rd_T37 l1 aa).f2)) ∧ w'.cell? ⟨(ac.add ((aa).toNat * 6)).block,(ac.add ((aa).toNat * 6)).off + 3,none⟩ = some (.slice a2 ((rd_T37 l1 aa).f3).length a3) ∧ w'.cell? ⟨(ac.add ((aa).toNat * 6)).block,(ac.add ((aa).toNat * 6)).off + 4,none⟩ = some (.slice a4 ((rd_T37 l1 aa).f4).length a5) ∧ w'.cell? ⟨(ac.add ((aa).toNat * 6)).block,(ac.add ((aa).toNat * 6)).off + 5,none⟩ = some (.slice a6 ((rd_T37 l1 aa).f5).length a7)) (ds := []) (bA 10 0) (by kernel_rfl) rfl rfl ⟨((HB.out.cell (World.block_lt_of_cell? w _ ao)).trans ao),((HB.out.cell (World.block_lt_of_cell? w _ an)).trans an),((HB.out.cell (World.block_lt_of_cell? w _ am)).trans am),((HB.out.cell (World.block_lt_of_cell? w _ al)).trans al),((HB.out.cell (World.block_lt_of_cell? w _ ak)).trans ak),((HB.out.cell (World.block_lt_of_cell? w _ aj)).trans aj),((HB.out.cell (World.block_lt_of_cell? w _ aC)).trans aC),((HB.out.cell (World.block_lt_of_cell? w _ aB)).trans aB),((HB.out.cell (World.block_lt_of_cell? w _ aA)).trans aA),((HB.out.cell (World.block_lt_of_cell? w _ az)).trans az),((HB.out.cell (World.block_lt_of_cell? w _ ay)).trans ay),((HB.out.cell (World.block_lt_of_cell? w _ ax)).trans ax)⟩ (fun hHeld => ?_);refine with_tabW r33_SameAll.tab6 r33_SameAll.bits6 (fun HT_ HW_ => ?_)
      generalize wr.drew = w9 at HB aJ aL aM aT aU aV ad ae af ag ah ai ap aq ar au av aw hHeld ⊢
      refine pure_ (i := 0) (N := some 17) (v := ?_) (a' := ?_) (bA 10 1) rfl rfl (any_of HT_.out (by kernel_rfl)) (fun _ _ _ h => h) (Or.inl ⟨by rfl,?_⟩) ?_ ?_
      rotate_left
      ·intro w'
       go_simp
       with_reducible rfl
      rotate_left
      ·simp only [Act.put,z1_,z2_,z3_,i64_w,i32_w]
       rfl
      refine pure_ (i := 1) (N := some 18) (v := ?_) (a' := ?_) (bA 10 3) rfl rfl (any_of HT_.out (by kernel_rfl)) (fun _ _ _ h => h) (Or.inl ⟨by rfl,?_⟩) ?_ ?_
      rotate_left
      ·intro w'
       go_simp
       with_reducible rfl
      rotate_left
      ·simp only [Act.put,z1_,z2_,z3_,i64_w,i32_w]
       rfl
      refine pure_ (i := 2) (N := some 19) (v := ?_) (a' := ?_) (bA 10 7) rfl rfl (any_of HT_.out (by kernel_rfl)) (fun _ _ _ h => h) (Or.inl ⟨by rfl,?_⟩) ?_ ?_
      rotate_left
      ·intro w'
       go_simp
       with_reducible rfl
      rotate_left
      ·simp only [Act.put,z1_,z2_,z3_,i64_w,i32_w]
       rfl
      refine pure_ (i := 4) (N := some 21) (v := ?_) (a' := ?_) (bA 10 23) rfl rfl (any_of HT_.out (by kernel_rfl)) (fun _ _ _ h => h) (Or.inl ⟨by rfl,?_⟩) ?_ ?_
      rotate_left
      ·intro w'
       go_simp
       with_reducible rfl
      rotate_left
      ·simp only [Act.put,z1_,z2_,z3_,i64_w,i32_w]
       rfl
      refine pure_ (i := 5) (N := some 22) (v := ?_) (a' := ?_) (bA 10 55) rfl rfl (any_of HT_.out (by kernel_rfl)) (fun _ _ _ h => h) (Or.inl ⟨by rfl,?_⟩) ?_ ?_
      rotate_left
      ·intro w'
       go_simp
       with_reducible rfl
      rotate_left
      ·simp only [Act.put,z1_,z2_,z3_,i64_w,i32_w]
       rfl
      refine pure_ (i := 6) (N := some 23) (v := ?_) (a' := ?_) (bA 10 119) rfl rfl (any_of HT_.out (by kernel_rfl)) (fun _ _ _ h => h) (Or.inl ⟨by rfl,?_⟩) ?_ ?_
      rotate_left
      ·intro w'
       go_simp
       with_reducible rfl
      rotate_left
      ·simp only [Act.put,z1_,z2_,z3_,i64_w,i32_w]
       rfl
      refine take_ (i := 3) (N := some 20) (v := ?_) (a' := ?_) (bA 10 127) rfl rfl (take_ofW HT_.out HW_.out (by kernel_rfl)) (fun _ _ _ h => h) (Or.inl ⟨by rfl,?_⟩) hHeld ?_ ?_
      rotate_left
      ·rintro w' ⟨s0,s1,s2,s3,s4,s5,s6,s7,s8,s9,bI,bJ⟩
       go_simp
       with_reducible rfl
      rotate_left
      ·simp only [Act.put,z1_,z2_,z3_,i64_w,i32_w]
       rfl
      refine take_ (i := 7) (N := some 24) (v := ?_) (a' := ?_) (bA 10 255) rfl rfl (take_ofW HT_.out HW_.out (by kernel_rfl)) (fun _ _ _ h => h) (Or.inl ⟨by rfl,?_⟩) hHeld ?_ ?_
      rotate_left
      ·rintro w' ⟨s0,s1,s2,s3,s4,s5,s6,s7,s8,s9,bI,bJ⟩
       go_simp
       with_reducible rfl
      rotate_left
      ·simp only [Act.put,z1_,z2_,z3_,i64_w,i32_w]
       rfl
      refine one_ (i := 8) (N := some 25) (bA 10 511) rfl rfl (one_of HT_.out (by kernel_rfl)) (by decide) (fun K hK => ?_)
      refine goes_ Tryd.func20 (by kernel_rfl) rfl #[.agg #[.int .i64 ((rd_T37 l0 aa).f0),.int .i64 ((rd_T37 l0 aa).f1),.int .i64 ((rd_T37 l0 aa).f2),.slice aW ((rd_T37 l0 aa).f3).length aX,.slice aY ((rd_T37 l0 aa).f4).length aZ,.slice a0 ((rd_T37 l0 aa).f5).length a1],.agg #[.int .i64 ((rd_T37 l1 aa).f0),.int .i64 ((rd_T37 l1 aa).f1),.int .i64 ((rd_T37 l1 aa).f2),.slice a2 ((rd_T37 l1 aa).f3).length a3,.slice a4 ((rd_T37 l1 aa).f4).length a5,.slice a6 ((rd_T37 l1 aa).f5).length a7]] (by rfl) rfl rfl (by (try simp only [z4_,z5_,z6_]);first|done|rfl|(simp only [z7_,z8_];rfl)) ?_
      with_reducible refine (r33_Same.calls k1 ((rd_T37 l0 aa).f0) ((rd_T37 l0 aa).f1) ((rd_T37 l0 aa).f2) _ _ ((rd_T37 l0 aa).f3) _ _ ((rd_T37 l0 aa).f4) _ _ ((rd_T37 l0 aa).f5) ((rd_T37 l1 aa).f0) ((rd_T37 l1 aa).f1) ((rd_T37 l1 aa).f2) _ _ ((rd_T37 l1 aa).f3) _ _ ((rd_T37 l1 aa).f4) _ _ ((rd_T37 l1 aa).f5) true _ ?bn ?bo ?bp ?bq ?br ?bs ?bu ?bv ?bx ?bi ?bj ?bk A7.out).mono ?_
      (case bn => exact cM (Kd.C_below aJ.out HB.out))
      (case bo => exact a8.out)
      (case bp => exact cM (Kd.C_below aL.out HB.out))
      (case bq => exact a9.out)
      (case br => exact cM (Kd.C_below aM.out HB.out))
      (case bs => exact ba.out)
      (case bu => exact cM (Kd.C_below aT.out HB.out))
      (case bv => exact bb.out)
      (case bx => exact cM (Kd.C_below aU.out HB.out))
      (case bi => exact bc.out)
      (case bj => exact cM (Kd.C_below aV.out HB.out))
      (case bk => exact bd.out)
      rintro e bY ⟨rfl,hb⟩
      refine ⟨_,rfl,?_⟩
      have bm := aK (below_step (bM HB.out) hb)
      clear HB
      have HB := bm
      clear bm
      (try clear hb)
      
      
      
      refine hK.out _ _ ⟨((HB.out.cell (World.block_lt_of_cell? w _ ao)).trans ao),((HB.out.cell (World.block_lt_of_cell? w _ an)).trans an),((HB.out.cell (World.block_lt_of_cell? w _ am)).trans am),((HB.out.cell (World.block_lt_of_cell? w _ al)).trans al),((HB.out.cell (World.block_lt_of_cell? w _ ak)).trans ak),((HB.out.cell (World.block_lt_of_cell? w _ aj)).trans aj),((HB.out.cell (World.block_lt_of_cell? w _ aC)).trans aC),((HB.out.cell (World.block_lt_of_cell? w _ aB)).trans aB),((HB.out.cell (World.block_lt_of_cell? w _ aA)).trans aA),((HB.out.cell (World.block_lt_of_cell? w _ az)).trans az),((HB.out.cell (World.block_lt_of_cell? w _ ay)).trans ay),((HB.out.cell (World.block_lt_of_cell? w _ ax)).trans ax)⟩ (fun hHeld => ?_)
      clear hK K
      refine norm_ (a' := ?_) ?_ ?_
      rotate_left
      ·show Act.put _ (some 25) _ = _
       simp only [Act.put,z1_,z2_,z3_,i64_w,i32_w]
       rfl
      refine pure_ (i := 9) (N := some 26) (v := ?_) (a' := ?_) (bA 10 1023) rfl rfl (any_of HT_.out (by kernel_rfl)) (fun _ _ _ h => h) (Or.inl ⟨by rfl,?_⟩) ?_ ?_
      rotate_left
      ·intro w'
       go_simp
       with_reducible rfl
      rotate_left
      ·simp only [Act.put,z1_,z2_,z3_,i64_w,i32_w]
       rfl
      refine done_ (done_of HT_.out (by kernel_rfl)) ?_
      try go_wp2
      go_roundg k1
      case measure => have := bR.out;omega
      case rel => exact ⟨(wrap64 (aa + 1)),(by first|rfl|(simp;done)|(simp [*];done)),H',⟨by have := bR.out;omega⟩,⟨bM HB.out⟩⟩
     ·replace c8 := Bool.eq_false_iff.mpr c8
      subst c8
      rw [if_neg (show ¬ (false = true) by decide)] at H
      obtain rfl := Option.some.inj H
      try go_wp2
      have bm := aK (below_drew1 HB.out)
      clear HB
      have HB := bm
      clear bm
      have be : 0 ≤ (aa : Int) := dA
      have bf : aa < (l0.length : Int) := dA
      obtain ⟨ab,aW,aX,aY,aZ,a0,a1,bz,ad,ae,af,ag,ah,ai,aD,aE,aF,aG,aH,aI⟩ := at_T37 bP.out aa be bf
      have aj := ai
      have ak := ah
      have al := ag
      have am := af
      have an := ae
      have ao := ad
      cases bz
      replace ad := xM HB ad
      replace ae := xM HB ae
      replace af := xM HB af
      replace ag := xM HB ag
      replace ah := xM HB ah
      replace ai := xM HB ai
      have aJ := aK aE
      have a8 := aK aD
      clear aE aD
      have aL := aK aG
      have a9 := aK aF
      clear aG aF
      have aM := aK aI
      have ba := aK aH
      clear aI aH
      replace be := eq_true be
      replace bf := eq_true bf
      have bg : 0 ≤ (aa : Int) := dA
      have bh : aa < (l1.length : Int) := dA
      obtain ⟨ac,a2,a3,a4,a5,a6,a7,bB,ap,aq,ar,au,av,aw,aN,aO,aP,aQ,aR,aS⟩ := at_T37 bQ.out aa bg bh
      have ax := aw
      have ay := av
      have az := au
      have aA := ar
      have aB := aq
      have aC := ap
      cases bB
      replace ap := xM HB ap
      replace aq := xM HB aq
      replace ar := xM HB ar
      replace au := xM HB au
      replace av := xM HB av
      replace aw := xM HB aw
      have aT := aK aO
      have bb := aK aN
      clear aO aN
      have aU := aK aQ
      have bc := aK aP
      clear aQ aP
      have aV := aK aS
      have bd := aK aR
      clear aS aR
      replace bg := eq_true bg
      replace bh := eq_true bh
      refine start_ (n := 10) (S := fun w' => w'.cell? (ab.add ((aa).toNat * 6)) = some (.int .i64 ((rd_T37 l0 aa).f0)) ∧ w'.cell? ⟨(ab.add ((aa).toNat * 6)).block,(ab.add ((aa).toNat * 6)).off + 1,none⟩ = some (.int .i64 ((rd_T37 l0 aa).f1)) ∧ w'.cell? ⟨(ab.add ((aa).toNat * 6)).block,(ab.add ((aa).toNat * 6)).off + 2,none⟩ = some (.int .i64 ((rd_T37 l0 aa).f2)) ∧ w'.cell? ⟨(ab.add ((aa).toNat * 6)).block,(ab.add ((aa).toNat * 6)).off + 3,none⟩ = some (.slice aW ((rd_T37 l0 aa).f3).length aX) ∧ w'.cell? ⟨(ab.add ((aa).toNat * 6)).block,(ab.add ((aa).toNat * 6)).off + 4,none⟩ = some (.slice aY ((rd_T37 l0 aa).f4).length aZ) ∧ w'.cell? ⟨(ab.add ((aa).toNat * 6)).block,(ab.add ((aa).toNat * 6)).off + 5,none⟩ = some (.slice a0 ((rd_T37 l0 aa).f5).length a1) ∧ w'.cell? (ac.add ((aa).toNat * 6)) = some (.int .i64 ((rd_T37 l1 aa).f0)) ∧ w'.cell? ⟨(ac.add ((aa).toNat * 6)).block,(ac.add ((aa).toNat * 6)).off + 1,none⟩ = some (.int .i64 ((rd_T37 l1 aa).f1)) ∧ w'.cell? ⟨(ac.add ((aa).toNat * 6)).block,(ac.add ((aa).toNat * 6)).off + 2,none⟩ = some (.int .i64 ((rd_T37 l1 aa).f2)) ∧ w'.cell? ⟨(ac.add ((aa).toNat * 6)).block,(ac.add ((aa).toNat * 6)).off + 3,none⟩ = some (.slice a2 ((rd_T37 l1 aa).f3).length a3) ∧ w'.cell? ⟨(ac.add ((aa).toNat * 6)).block,(ac.add ((aa).toNat * 6)).off + 4,none⟩ = some (.slice a4 ((rd_T37 l1 aa).f4).length a5) ∧ w'.cell? ⟨(ac.add ((aa).toNat * 6)).block,(ac.add ((aa).toNat * 6)).off + 5,none⟩ = some (.slice a6 ((rd_T37 l1 aa).f5).length a7)) (ds := []) (bA 10 0) (by kernel_rfl) rfl rfl ⟨((HB.out.cell (World.block_lt_of_cell? w _ ao)).trans ao),((HB.out.cell (World.block_lt_of_cell? w _ an)).trans an),((HB.out.cell (World.block_lt_of_cell? w _ am)).trans am),((HB.out.cell (World.block_lt_of_cell? w _ al)).trans al),((HB.out.cell (World.block_lt_of_cell? w _ ak)).trans ak),((HB.out.cell (World.block_lt_of_cell? w _ aj)).trans aj),((HB.out.cell (World.block_lt_of_cell? w _ aC)).trans aC),((HB.out.cell (World.block_lt_of_cell? w _ aB)).trans aB),((HB.out.cell (World.block_lt_of_cell? w _ aA)).trans aA),((HB.out.cell (World.block_lt_of_cell? w _ az)).trans az),((HB.out.cell (World.block_lt_of_cell? w _ ay)).trans ay),((HB.out.cell (World.block_lt_of_cell? w _ ax)).trans ax)⟩ (fun hHeld => ?_);refine with_tabW r33_SameAll.tab6 r33_SameAll.bits6 (fun HT_ HW_ => ?_)
      generalize wr.drew = w11 at HB aJ aL aM aT aU aV ad ae af ag ah ai ap aq ar au av aw hHeld ⊢
      refine pure_ (i := 0) (N := some 17) (v := ?_) (a' := ?_) (bA 10 1) rfl rfl (any_of HT_.out (by kernel_rfl)) (fun _ _ _ h => h) (Or.inl ⟨by rfl,?_⟩) ?_ ?_
      rotate_left
      ·intro w'
       go_simp
       with_reducible rfl
      rotate_left
      ·simp only [Act.put,z1_,z2_,z3_,i64_w,i32_w]
       rfl
      refine pure_ (i := 1) (N := some 18) (v := ?_) (a' := ?_) (bA 10 3) rfl rfl (any_of HT_.out (by kernel_rfl)) (fun _ _ _ h => h) (Or.inl ⟨by rfl,?_⟩) ?_ ?_
      rotate_left
      ·intro w'
       go_simp
       with_reducible rfl
      rotate_left
      ·simp only [Act.put,z1_,z2_,z3_,i64_w,i32_w]
       rfl
      refine pure_ (i := 2) (N := some 19) (v := ?_) (a' := ?_) (bA 10 7) rfl rfl (any_of HT_.out (by kernel_rfl)) (fun _ _ _ h => h) (Or.inl ⟨by rfl,?_⟩) ?_ ?_
      rotate_left
      ·intro w'
       go_simp
       with_reducible rfl
      rotate_left
      ·simp only [Act.put,z1_,z2_,z3_,i64_w,i32_w]
       rfl
      refine pure_ (i := 4) (N := some 21) (v := ?_) (a' := ?_) (bA 10 23) rfl rfl (any_of HT_.out (by kernel_rfl)) (fun _ _ _ h => h) (Or.inl ⟨by rfl,?_⟩) ?_ ?_
      rotate_left
      ·intro w'
       go_simp
       with_reducible rfl
      rotate_left
      ·simp only [Act.put,z1_,z2_,z3_,i64_w,i32_w]
       rfl
      refine pure_ (i := 5) (N := some 22) (v := ?_) (a' := ?_) (bA 10 55) rfl rfl (any_of HT_.out (by kernel_rfl)) (fun _ _ _ h => h) (Or.inl ⟨by rfl,?_⟩) ?_ ?_
      rotate_left
      ·intro w'
       go_simp
       with_reducible rfl
      rotate_left
      ·simp only [Act.put,z1_,z2_,z3_,i64_w,i32_w]
       rfl
      refine pure_ (i := 6) (N := some 23) (v := ?_) (a' := ?_) (bA 10 119) rfl rfl (any_of HT_.out (by kernel_rfl)) (fun _ _ _ h => h) (Or.inl ⟨by rfl,?_⟩) ?_ ?_
      rotate_left
      ·intro w'
       go_simp
       with_reducible rfl
      rotate_left
      ·simp only [Act.put,z1_,z2_,z3_,i64_w,i32_w]
       rfl
      refine take_ (i := 3) (N := some 20) (v := ?_) (a' := ?_) (bA 10 127) rfl rfl (take_ofW HT_.out HW_.out (by kernel_rfl)) (fun _ _ _ h => h) (Or.inl ⟨by rfl,?_⟩) hHeld ?_ ?_
      rotate_left
      ·rintro w' ⟨s0,s1,s2,s3,s4,s5,s6,s7,s8,s9,bI,bJ⟩
       go_simp
       with_reducible rfl
      rotate_left
      ·simp only [Act.put,z1_,z2_,z3_,i64_w,i32_w]
       rfl
      refine take_ (i := 7) (N := some 24) (v := ?_) (a' := ?_) (bA 10 255) rfl rfl (take_ofW HT_.out HW_.out (by kernel_rfl)) (fun _ _ _ h => h) (Or.inl ⟨by rfl,?_⟩) hHeld ?_ ?_
      rotate_left
      ·rintro w' ⟨s0,s1,s2,s3,s4,s5,s6,s7,s8,s9,bI,bJ⟩
       go_simp
       with_reducible rfl
      rotate_left
      ·simp only [Act.put,z1_,z2_,z3_,i64_w,i32_w]
       rfl
      refine one_ (i := 8) (N := some 25) (bA 10 511) rfl rfl (one_of HT_.out (by kernel_rfl)) (by decide) (fun K hK => ?_)
      refine goes_ Tryd.func20 (by kernel_rfl) rfl #[.agg #[.int .i64 ((rd_T37 l0 aa).f0),.int .i64 ((rd_T37 l0 aa).f1),.int .i64 ((rd_T37 l0 aa).f2),.slice aW ((rd_T37 l0 aa).f3).length aX,.slice aY ((rd_T37 l0 aa).f4).length aZ,.slice a0 ((rd_T37 l0 aa).f5).length a1],.agg #[.int .i64 ((rd_T37 l1 aa).f0),.int .i64 ((rd_T37 l1 aa).f1),.int .i64 ((rd_T37 l1 aa).f2),.slice a2 ((rd_T37 l1 aa).f3).length a3,.slice a4 ((rd_T37 l1 aa).f4).length a5,.slice a6 ((rd_T37 l1 aa).f5).length a7]] (by rfl) rfl rfl (by (try simp only [z4_,z5_,z6_]);first|done|rfl|(simp only [z7_,z8_];rfl)) ?_
      with_reducible refine (r33_Same.calls k1 ((rd_T37 l0 aa).f0) ((rd_T37 l0 aa).f1) ((rd_T37 l0 aa).f2) _ _ ((rd_T37 l0 aa).f3) _ _ ((rd_T37 l0 aa).f4) _ _ ((rd_T37 l0 aa).f5) ((rd_T37 l1 aa).f0) ((rd_T37 l1 aa).f1) ((rd_T37 l1 aa).f2) _ _ ((rd_T37 l1 aa).f3) _ _ ((rd_T37 l1 aa).f4) _ _ ((rd_T37 l1 aa).f5) false _ ?bn ?bo ?bp ?bq ?br ?bs ?bu ?bv ?bx ?bi ?bj ?bk A7.out).mono ?_
      (case bn => exact cM (Kd.C_below aJ.out HB.out))
      (case bo => exact a8.out)
      (case bp => exact cM (Kd.C_below aL.out HB.out))
      (case bq => exact a9.out)
      (case br => exact cM (Kd.C_below aM.out HB.out))
      (case bs => exact ba.out)
      (case bu => exact cM (Kd.C_below aT.out HB.out))
      (case bv => exact bb.out)
      (case bx => exact cM (Kd.C_below aU.out HB.out))
      (case bi => exact bc.out)
      (case bj => exact cM (Kd.C_below aV.out HB.out))
      (case bk => exact bd.out)
      rintro e bZ ⟨rfl,hb⟩
      refine ⟨_,rfl,?_⟩
      have bm := aK (below_step (bM HB.out) hb)
      clear HB
      have HB := bm
      clear bm
      (try clear hb)
      
      
      
      refine hK.out _ _ ⟨((HB.out.cell (World.block_lt_of_cell? w _ ao)).trans ao),((HB.out.cell (World.block_lt_of_cell? w _ an)).trans an),((HB.out.cell (World.block_lt_of_cell? w _ am)).trans am),((HB.out.cell (World.block_lt_of_cell? w _ al)).trans al),((HB.out.cell (World.block_lt_of_cell? w _ ak)).trans ak),((HB.out.cell (World.block_lt_of_cell? w _ aj)).trans aj),((HB.out.cell (World.block_lt_of_cell? w _ aC)).trans aC),((HB.out.cell (World.block_lt_of_cell? w _ aB)).trans aB),((HB.out.cell (World.block_lt_of_cell? w _ aA)).trans aA),((HB.out.cell (World.block_lt_of_cell? w _ az)).trans az),((HB.out.cell (World.block_lt_of_cell? w _ ay)).trans ay),((HB.out.cell (World.block_lt_of_cell? w _ ax)).trans ax)⟩ (fun hHeld => ?_)
      clear hK K
      refine norm_ (a' := ?_) ?_ ?_
      rotate_left
      ·show Act.put _ (some 25) _ = _
       simp only [Act.put,z1_,z2_,z3_,i64_w,i32_w]
       rfl
      refine pure_ (i := 9) (N := some 26) (v := ?_) (a' := ?_) (bA 10 1023) rfl rfl (any_of HT_.out (by kernel_rfl)) (fun _ _ _ h => h) (Or.inl ⟨by rfl,?_⟩) ?_ ?_
      rotate_left
      ·intro w'
       go_simp
       with_reducible rfl
      rotate_left
      ·simp only [Act.put,z1_,z2_,z3_,i64_w,i32_w]
       rfl
      refine done_ (done_of HT_.out (by kernel_rfl)) ?_
      try go_wp2
      go_ret
      exact ⟨by first|rfl|(simp [errW_none,errW_some] <;> rfl)|(simp [*,errW_none,errW_some] <;> rfl),bM HB.out⟩
    ·rw [if_neg c4] at H
     have bF := decide_eq_false c4
     clear c4
     obtain rfl := Option.some.inj H
     go_wp2
     go_ret
     exact ⟨by first|rfl|(simp [errW_none,errW_some] <;> rfl)|(simp [*,errW_none,errW_some] <;> rfl),bM HB.out⟩
 ·rw [if_neg c3] at H
  have bC := beq_eq_false_iff_ne.mpr c3
  have bD := bne_iff_ne.mpr c3
  have bE : (l0.length == l1.length) = false := by first|simpa using c3|(simp at c3 ⊢;omega)
  obtain rfl := Option.some.inj H
  go_enter Tryd.func17,Tryd.ntmps17
  go_wp2
  go_ret
  exact ⟨by first|rfl|(simp [errW_none,errW_some] <;> rfl)|(simp [*,errW_none,errW_some] <;> rfl),bM HB.out⟩

/-! ### posting_Valid: function 52 -/
def posting_Valid.l0 : Nat → List Int → List Int → Int → Int → Option (Bool)
|0,_,_,_,_ => none
|k + 1,x0,x5,x6,x7 => if x7 < x6 then (if 0 ≤ x7 then (if x7 < (x5.length : Int) then (if (rd x5 x7) < 0 then (some false) else (if (rd x5 x7) > 9999 then (some false) else (if x7 > 0 then (if 0 ≤ (wrap64 (x7 - 1)) then (if (wrap64 (x7 - 1)) < (x0.length : Int) then (if (rd x5 x7) ≤ (rd x0 (wrap64 (x7 - 1))) then (some false) else (posting_Valid.l0 k x0 x5 x6 (wrap64 (x7 + 1)))) else (none)) else (none)) else (posting_Valid.l0 k x0 x5 x6 (wrap64 (x7 + 1)))))) else (none)) else (none)) else (some true)
def posting_Valid.f (k : Nat) (l0 : List Int) : Option (Bool) := posting_Valid.l0 k l0 l0 (l0.length : Int) 0
theorem posting_Valid.mono_l : ∀ k, (∀ y0 y1 y2 y3, LeO (posting_Valid.l0 k y0 y1 y2 y3) (posting_Valid.l0 (k + 1) y0 y1 y2 y3))
|0 => fun _ _ _ _ r h => by simp [posting_Valid.l0] at h
|k + 1 => by
  have ih0 := posting_Valid.mono_l k
  ·intro y0 y1 y2 y3
   unfold posting_Valid.l0
   repeat' (with_reducible first|exact ih0 _ _ _ _|exact LeO.refl _|exact LeO.none _|refine LeO.ite ?_ ?_|refine LeO.bind ?_ (fun _ => ?_))
theorem posting_Valid.mono : ∀ a0 k, LeO (posting_Valid.f k a0) (posting_Valid.f (k + 1) a0) := by
 intro a0 k
 have ih0 := posting_Valid.mono_l k
 unfold posting_Valid.f
 repeat' first
  |(with_reducible exact ih0 _ _ _ _)
  |(with_reducible exact LeO.refl _)
  |(with_reducible exact LeO.none _)
  |(with_reducible refine LeO.ite ?_ ?_)
  |(with_reducible refine LeO.bind ?_ (fun _ => ?_))
  |exact ih0 _ _ _ _
  |exact LeO.none _
  |refine LeO.ite ?_ ?_
  |refine LeO.bind ?_ (fun _ => ?_)
theorem posting_Valid.calls (k : Nat) (A0 : Option Addr) (c0 : Nat) (l0 : List Int) (r : Bool) (w : World) (ax : Kd.C (Kd.int .i64) w A0 l0.length l0) (ay : l0.length ≤ c0) (h : posting_Valid.f k l0 = some r) :
  Calls Tryd.prog 52 #[.slice A0 l0.length c0] w fun e w' => e = .returned (.bool r) ∧ Drawn0 w w' := by
 have am := aK ax
 have aE := aK ay
 clear ax ay
 have H : (posting_Valid.l0 k l0 l0 (l0.length : Int) 0) = some r := h
 clear h
 have H' := aK H
 clear H
 go_enter Tryd.func52,Tryd.ntmps52
 go_wp2
 go_loopg [7] k (fun kq v7 w' => ∃ (aa : Int),v7 = .int .i64 aa ∧ Aside0 (posting_Valid.l0 kq l0 l0 (l0.length : Int) aa = some r) ∧ Aside0 (kq ≤ k) ∧ Drawn0 w w')
 case atStart => exact ⟨(0),(by first|rfl|(simp;done)|(simp [*];done)),H',⟨Nat.le_refl _⟩,by repeat (first|exact Drawn0.refl _|apply Drawn0.step)⟩
 case round =>
  clear H'
  obtain ⟨aa,rfl,HA,aq,⟨m1,rfl⟩⟩ := hrel
  cases gk with
 |zero => exact absurd HA.out (by simp [posting_Valid.l0])
 |succ k1 =>
   have H := HA.out
   clear HA
   simp only [posting_Valid.l0] at H
   by_cases c2 : aa < (l0.length : Int)
   ·rw [if_pos c2] at H
    have ar := decide_eq_true c2
    clear c2
    obtain ⟨c3,H⟩ := iS H
    have aB := decide_eq_true c3
    clear c3
    obtain ⟨c4,H⟩ := iS H
    have aC := decide_eq_true c4
    clear c4
    by_cases c5 : (rd l0 aa) < 0
    ·rw [if_pos c5] at H
     have au := decide_eq_true c5
     clear c5
     obtain rfl := Option.some.inj H
     have ab : 0 ≤ (aa : Int) := dA
     have ac : aa < (l0.length : Int) := dA
     obtain ⟨ae,af,ad⟩ := Kd.at_int am.out aa ab ac
     cases af
     replace ab := eq_true ab
     replace ac := eq_true ac
     go_wp2
     go_ret
     exact ⟨by first|rfl|(simp;done)|(simp [*];done),by repeat (first|exact Drawn0.refl _|apply Drawn0.step)⟩
    ·rw [if_neg c5] at H
     have au := decide_eq_false c5
     clear c5
     by_cases c6 : (rd l0 aa) > 9999
     ·rw [if_pos c6] at H
      have av := decide_eq_true c6
      clear c6
      obtain rfl := Option.some.inj H
      have ab : 0 ≤ (aa : Int) := dA
      have ac : aa < (l0.length : Int) := dA
      obtain ⟨ae,af,ad⟩ := Kd.at_int am.out aa ab ac
      cases af
      replace ab := eq_true ab
      replace ac := eq_true ac
      go_wp2
      go_ret
      exact ⟨by first|rfl|(simp;done)|(simp [*];done),by repeat (first|exact Drawn0.refl _|apply Drawn0.step)⟩
     ·rw [if_neg c6] at H
      have av := decide_eq_false c6
      clear c6
      by_cases c7 : aa > 0
      ·rw [if_pos c7] at H
       have aw := decide_eq_true c7
       clear c7
       obtain ⟨ai,ak⟩ : ∃ j_ : Int,(wrap64 (aa - 1)) = j_ := ⟨_,rfl⟩
       replace H : (if 0 ≤ (ai) then (if (ai) < (l0.length : Int) then (if (rd l0 aa) ≤ (rd l0 (ai)) then (some false) else (posting_Valid.l0 k1 l0 l0 (l0.length : Int) (wrap64 (aa + 1)))) else (none)) else (none)) = some r := by first|(rw [ak] at H;exact H)|(simp only [ak] at H ⊢;exact H)
       have az : (IntKind.i64.wrap (aa - 1)) = ai := (i64_w _).trans ak
       obtain ⟨c9,H⟩ := iS H
       have aD := decide_eq_true c9
       clear c9
       obtain ⟨c10,H⟩ := iS H
       have aA := decide_eq_true c10
       clear c10
       by_cases ao : (rd l0 aa) ≤ (rd l0 (ai))
       ·rw [if_pos ao] at H
        have ap := decide_eq_true ao
        clear ao
        obtain rfl := Option.some.inj H
        have ab : 0 ≤ (aa : Int) := dA
        have ac : aa < (l0.length : Int) := dA
        obtain ⟨ae,af,ad⟩ := Kd.at_int am.out aa ab ac
        cases af
        replace ab := eq_true ab
        replace ac := eq_true ac
        have ag : 0 ≤ ((ai) : Int) := dA
        have ah : (ai) < (l0.length : Int) := dA
        obtain ⟨aj,an,al⟩ := Kd.at_int am.out (ai) ag ah
        obtain rfl : ae = aj := (by injection an)
        replace ag := eq_true ag
        replace ah := eq_true ah
        go_wp2
        go_ret
        exact ⟨by first|rfl|(simp;done)|(rw [Int.tdiv_eq_ediv_of_nonneg (by assumption)];done)|(rw [Int.tmod_eq_emod_of_nonneg (by assumption)];done)|(simp only [← ak] <;> (first|rfl|simp))|(simp [*];done),by repeat (first|exact Drawn0.refl _|apply Drawn0.step)⟩
       ·rw [if_neg ao] at H
        have ap := decide_eq_false ao
        clear ao
        have H' := aK H
        clear H
        have ab : 0 ≤ (aa : Int) := dA
        have ac : aa < (l0.length : Int) := dA
        obtain ⟨ae,af,ad⟩ := Kd.at_int am.out aa ab ac
        cases af
        replace ab := eq_true ab
        replace ac := eq_true ac
        have ag : 0 ≤ ((ai) : Int) := dA
        have ah : (ai) < (l0.length : Int) := dA
        obtain ⟨aj,an,al⟩ := Kd.at_int am.out (ai) ag ah
        obtain rfl : ae = aj := (by injection an)
        replace ag := eq_true ag
        replace ah := eq_true ah
        go_wp2
        go_roundg k1
        case measure => have := aq.out;omega
        case rel => exact ⟨(wrap64 (aa + 1)),(by first|rfl|(simp;done)|(simp [*];done)),H',⟨by have := aq.out;omega⟩,by repeat (first|exact Drawn0.refl _|apply Drawn0.step)⟩
      ·rw [if_neg c7] at H
       have aw := decide_eq_false c7
       clear c7
       have H' := aK H
       clear H
       have ab : 0 ≤ (aa : Int) := dA
       have ac : aa < (l0.length : Int) := dA
       obtain ⟨ae,af,ad⟩ := Kd.at_int am.out aa ab ac
       cases af
       replace ab := eq_true ab
       replace ac := eq_true ac
       go_wp2
       go_roundg k1
       case measure => have := aq.out;omega
       case rel => exact ⟨(wrap64 (aa + 1)),(by first|rfl|(simp;done)|(simp [*];done)),H',⟨by have := aq.out;omega⟩,by repeat (first|exact Drawn0.refl _|apply Drawn0.step)⟩
   ·rw [if_neg c2] at H
    have ar := decide_eq_false c2
    clear c2
    obtain rfl := Option.some.inj H
    go_wp2
    go_ret
    exact ⟨by first|rfl|(simp;done)|(simp [*];done),by repeat (first|exact Drawn0.refl _|apply Drawn0.step)⟩

/-! ### strings_Index: function 69 (by hand) -/
def strings_Index.f (a0 a1 : ByteArray) : Option Int := if a1.size = 1 then some (Lib.indexByte a0.data.toList (a1.data.toList.headD 0)) else none
theorem strings_Index.calls (a0 : ByteArray) (a1 : ByteArray) (r : Int) (w : World) (h : strings_Index.f a0 a1 = some r) :
    Calls Tryd.prog 69 #[.string a0, .string a1] w fun e w' => e = .returned (.int .i64 r) ∧ Drawn0 w w' := by
  unfold strings_Index.f at h
  split at h
  case isFalse => cases h
  rename_i h1
  obtain rfl := Option.some.inj h
  have e := one_byte_ a1 h1
  have hc := Tryd.strings_Index_one a0 (a1.data.toList.headD 0) w
  rw [← e] at hc
  refine hc.mono ?_
  rintro e w' ⟨rfl, rfl⟩
  exact ⟨rfl, Drawn0.refl _⟩

/-! ### strings_Contains: function 60 -/
def strings_Contains.f (a0 : ByteArray) (a1 : ByteArray) : Option (Bool) := (strings_Index.f a0 a1).bind fun t314 => (some (decide (t314 ≥ 0)))
theorem strings_Contains.calls (a0 : ByteArray) (a1 : ByteArray) (r : Bool) (w : World) (h : strings_Contains.f a0 a1 = some r) :
  Calls Tryd.prog 60 #[.string a0,.string a1] w fun e w' => e = .returned (.bool r) ∧ Drawn0 w w' := by
 have H : ((strings_Index.f a0 a1).bind fun aa => (some (decide (aa ≥ 0)))) = some r := h
 clear h
 replace H := Option.bind_eq_some_iff.mp H
 obtain ⟨aa,ab,H⟩ := H
 have A3 := aK ab
 clear ab
 obtain rfl := Option.some.inj H
 go_enter Tryd.func60,Tryd.ntmps60
 go_wp2_with (first|((with_reducible refine gate_callee (f := 69) rfl ?_);refine gL 7 Tryd.func69 #[.string a0,.string a1] ?_;(with_reducible refine (strings_Index.calls a0 a1 aa _ A3.out).mono ?_);rintro e w' ⟨rfl,⟨nd,rfl⟩⟩;refine ⟨_,rfl,?_⟩))
 go_ret
 exact ⟨by first|rfl|(simp;done)|(simp [*];done),by repeat (first|exact Drawn0.refl _|apply Drawn0.step)⟩

/-! ### strings_explode: function 93 (by hand) -/
/-- Not reached: what is split is not split at nothing. -/
def strings_explode.f (_a0 : ByteArray) (_a1 : Int) : Option (List ByteArray) := none
theorem strings_explode.calls (a0 : ByteArray) (a1 : Int) (r : List ByteArray) (w : World) (h : strings_explode.f a0 a1 = some r) :
    Calls Tryd.prog 93 #[.string a0, .int .i64 a1] w fun e w' => ∃ aa : Value, e = .returned (aa) ∧ Kd.R Kd.string 9 w' w.heap.size (fun _ => True) aa r ∧ Below w.heap.size w w' := by
  cases h

/-! ### strings_Count: function 94 (by hand) -/
def strings_Count.f (a0 a1 : ByteArray) : Option Int := if a1.size = 1 then some (Lib.countByte a0.data.toList (a1.data.toList.headD 0)) else none
theorem strings_Count.calls (a0 : ByteArray) (a1 : ByteArray) (r : Int) (w : World) (h : strings_Count.f a0 a1 = some r) :
    Calls Tryd.prog 94 #[.string a0, .string a1] w fun e w' => e = .returned (.int .i64 r) ∧ Drawn0 w w' := by
  unfold strings_Count.f at h
  split at h
  case isFalse => cases h
  rename_i h1
  obtain rfl := Option.some.inj h
  have e := one_byte_ a1 h1
  have hc := Tryd.strings_Count_one a0 (a1.data.toList.headD 0) w
  rw [← e] at hc
  refine hc.mono ?_
  rintro e w' ⟨rfl, rfl⟩
  exact ⟨rfl, Drawn0.refl _⟩

end Go.Proofs.YtmgliocboeifdaaDoor.K
