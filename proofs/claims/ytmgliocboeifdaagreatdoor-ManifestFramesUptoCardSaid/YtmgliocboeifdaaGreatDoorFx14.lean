import Derived.Test.YtmgliocboeifdaaGreatDoorFx0
import Derived.Test.YtmgliocboeifdaaGreatDoorFx9
import Derived.Test.YtmgliocboeifdaaGreatDoorFx13
namespace Go.Proofs.YtmgliocboeifdaaGreatDoor.F
open Go.RowKit Go.Proofs.YtmgliocboeifdaaGreatDoorW.PrintWords Go.Proofs.YtmgliocboeifdaaGreatDoorW.PrintLast Go.Proofs.YtmgliocboeifdaaGreatDoorW.PrintMore
set_option maxHeartbeats 4000000
set_option maxRecDepth 100000
attribute [local go_sem] max2_int min2_int max_two min_two max_three min_three max_four min_four
set_option linter.unusedVariables false
set_option linter.unusedSimpArgs false
def r33_SameAll.l0 : Nat → List (S30) → List (S30) → Int → Option (Bool)
|0,_,_,_ => none
|k + 1,x0,x1,x5 => if x5 < (x0.length : Int) then (if 0 ≤ x5 then (if x5 < (x1.length : Int) then ((r33_Same.f k ((rd_T30 x0 x5).f0) ((rd_T30 x0 x5).f1) ((rd_T30 x0 x5).f2) ((rd_T30 x0 x5).f3) ((rd_T30 x0 x5).f4) ((rd_T30 x0 x5).f5) ((rd_T30 x1 x5).f0) ((rd_T30 x1 x5).f1) ((rd_T30 x1 x5).f2) ((rd_T30 x1 x5).f3) ((rd_T30 x1 x5).f4) ((rd_T30 x1 x5).f5)).bind fun aa => (if aa = true then (r33_SameAll.l0 k x0 x1 (wrap64 (x5 + 1))) else (some false))) else (none)) else (none)) else (some true)
def r33_SameAll.f (k : Nat) (l0 : List (S30)) (l1 : List (S30)) : Option (Bool) := if (l0.length : Int) = (l1.length : Int) then (r33_SameAll.l0 k l0 l1 0) else (some false)
theorem r33_SameAll.mono_l : ∀ k, (∀ y0 y1 y2, LeO (r33_SameAll.l0 k y0 y1 y2) (r33_SameAll.l0 (k + 1) y0 y1 y2))
|0 => fun _ _ _ r h => by simp [r33_SameAll.l0] at h
|k + 1 => by
  have ih0 := r33_SameAll.mono_l k
  ·intro y0 y1 y2
   unfold r33_SameAll.l0
   repeat' (with_reducible first|exact ih0 _ _ _|exact r33_Same.mono _ _ _ _ _ _ _ _ _ _ _ _ _|exact LeO.refl _|exact LeO.none _|refine LeO.ite ?_ ?_|refine LeO.bind ?_ (fun _ => ?_))
theorem r33_SameAll.mono : ∀ a0 a1 k, LeO (r33_SameAll.f k a0 a1) (r33_SameAll.f (k + 1) a0 a1) := by
 intro a0 a1 k
 have ih0 := r33_SameAll.mono_l k
 unfold r33_SameAll.f
 repeat' (with_reducible first|exact ih0 _ _ _|exact r33_Same.mono _ _ _ _ _ _ _ _ _ _ _ _ _|exact LeO.refl _|exact LeO.none _|refine LeO.ite ?_ ?_|refine LeO.bind ?_ (fun _ => ?_))
def r33_SameAll.T6 : Bool × List (List Nat × List Nat) := (true, [([], []), ([], []), ([0, 1], [0, 1]), ([2], [2]), ([], []), ([], []), ([4, 5], [4, 5]), ([6], [6]), ([3, 7], [3, 7]), ([8], [8])])
def r33_SameAll.B6 : List Nat := [0, 0, 3, 7, 0, 0, 48, 112, 255, 511]
theorem r33_SameAll.tab6 : rtab .any (opsOf Tryz.f19 6) = r33_SameAll.T6 := by kernel_rfl
theorem r33_SameAll.bits6 : waitsOk r33_SameAll.T6.2 r33_SameAll.B6 = true := by kernel_rfl
theorem r33_SameAll.calls (k : Nat) (A0 : Option Addr) (c0 : Nat) (l0 : List (S30)) (A1 : Option Addr) (c1 : Nat) (l1 : List (S30)) (r : Bool) (w : World) (bK : Kd.C k30 w A0 l0.length l0) (bL : l0.length ≤ c0) (bN : Kd.C k30 w A1 l1.length l1) (bO : l1.length ≤ c1) (h : r33_SameAll.f k l0 l1 = some r) :
  Calls Tryz.prog 19 #[.slice A0 l0.length c0,.slice A1 l1.length c1] w fun e w' => e = .returned (.bool r) ∧ Below w.heap.size w w' := by
 have bT := Tryz.underlying30
 have bP := aK bK
 have bW := aK bL
 clear bK bL
 have bQ := aK bN
 have bX := aK bO
 clear bN bO
 have HB := aK (Below.refl w.heap.size w)
 have H : (if (l0.length : Int) = (l1.length : Int) then (r33_SameAll.l0 k l0 l1 0) else (some false)) = some r := h
 clear h
 by_cases c3 : (l0.length : Int) = (l1.length : Int)
 ·rw [if_pos c3] at H
  have bC := beq_iff_eq.mpr c3
  have bD := bne_eq_false_iff_eq.mpr c3
  have bE : (l0.length == l1.length) = true := by first|simpa using c3|(simp at c3 ⊢;omega)
  clear c3
  have H' := aK H
  clear H
  go_enter Tryz.func19,Tryz.ntmps19
  go_wp2
  go_loopg [5] k (fun kq v5 w' => ∃ (aa : Int),v5 = .int .i64 aa ∧ Aside0 (r33_SameAll.l0 kq l0 l1 aa = some r) ∧ Aside0 (kq ≤ k) ∧ Aside0 (Below w.heap.size w w'))
  case atStart => exact ⟨(0),(by first|rfl|(simp;done)|(simp [*];done)),H',⟨Nat.le_refl _⟩,⟨bM HB.out⟩⟩
  case round =>
   clear H'
   try clear p2
   try clear c3
   try clear bC
   try clear bD
   try clear bE
   obtain ⟨aa,rfl,HA,bR,HB⟩ := hrel
   cases gk with
  |zero => exact absurd HA.out (by simp [r33_SameAll.l0])
  |succ k1 =>
    have H := HA.out
    clear HA
    simp only [r33_SameAll.l0] at H
    by_cases c4 : aa < (l0.length : Int)
    ·rw [if_pos c4] at H
     have bF := decide_eq_true c4
     clear c4
     obtain ⟨c5,H⟩ := iS H
     have bU := decide_eq_true c5
     clear c5
     obtain ⟨c6,H⟩ := iS H
     have bV := decide_eq_true c6
     clear c6
     replace H := Option.bind_eq_some_iff.mp H
     obtain ⟨bH,bS,H⟩ := H
     have A7 := aK bS
     clear bS
     by_cases c8 : bH = true
     ·subst c8
      rw [if_pos rfl] at H
      have H' := aK H
      clear H
      try go_wp2
      have bm := aK (below_drew1 HB.out)
      clear HB
      have HB := bm
      clear bm
      have be : 0 ≤ (aa : Int) := dA
      have bf : aa < (l0.length : Int) := dA
      obtain ⟨ab,aW,aX,aY,aZ,a0,a1,bz,ad,ae,af,ag,ah,ai,aD,aE,aF,aG,aH,aI⟩ := at_T30 bP.out aa be bf
      have aj := ai
      have ak := ah
      have al := ag
      have am := af
      have an := ae
      have ao := ad
      cases bz
      replace ad := xM HB ad
      replace ae := xM HB ae
      replace af := xM HB af
      replace ag := xM HB ag
      replace ah := xM HB ah
      replace ai := xM HB ai
      have aJ := aK aE
      have a8 := aK aD
      clear aE aD
      have aL := aK aG
      have a9 := aK aF
      clear aG aF
      have aM := aK aI
      have ba := aK aH
      clear aI aH
      replace be := eq_true be
      replace bf := eq_true bf
      have bg : 0 ≤ (aa : Int) := dA
      have bh : aa < (l1.length : Int) := dA
      obtain ⟨ac,a2,a3,a4,a5,a6,a7,bB,ap,aq,ar,au,av,aw,aN,aO,aP,aQ,aR,aS⟩ := at_T30 bQ.out aa bg bh
      have ax := aw
      have ay := av
      have az := au
      have aA := ar
      have aB := aq
      have aC := ap
      cases bB
      replace ap := xM HB ap
      replace aq := xM HB aq
      replace ar := xM HB ar
      replace au := xM HB au
      replace av := xM HB av
      replace aw := xM HB aw
      have aT := aK aO
      have bb := aK aN
      clear aO aN
      have aU := aK aQ
      have bc := aK aP
      clear aQ aP
      have aV := aK aS
      have bd := aK aR
      clear aS aR
      replace bg := eq_true bg
      replace bh := eq_true bh
      refine start_ (n := 10) (S := fun w' => w'.cell? (ab.add ((aa).toNat * 6)) = some (.int .i64 ((rd_T30 l0 aa).f0)) ∧ w'.cell? ⟨(ab.add ((aa).toNat * 6)).block,(ab.add ((aa).toNat * 6)).off + 1,none⟩ = some (.int .i64 ((rd_T30 l0 aa).f1)) ∧ w'.cell? ⟨(ab.add ((aa).toNat * 6)).block,(ab.add ((aa).toNat * 6)).off + 2,none⟩ = some (.int .i64 ((rd_T30 l0 aa).f2)) ∧ w'.cell? ⟨(ab.add ((aa).toNat * 6)).block,(ab.add ((aa).toNat * 6)).off + 3,none⟩ = some (.slice aW ((rd_T30 l0 aa).f3).length aX) ∧ w'.cell? ⟨(ab.add ((aa).toNat * 6)).block,(ab.add ((aa).toNat * 6)).off + 4,none⟩ = some (.slice aY ((rd_T30 l0 aa).f4).length aZ) ∧ w'.cell? ⟨(ab.add ((aa).toNat * 6)).block,(ab.add ((aa).toNat * 6)).off + 5,none⟩ = some (.slice a0 ((rd_T30 l0 aa).f5).length a1) ∧ w'.cell? (ac.add ((aa).toNat * 6)) = some (.int .i64 ((rd_T30 l1 aa).f0)) ∧ w'.cell? ⟨(ac.add ((aa).toNat * 6)).block,(ac.add ((aa).toNat * 6)).off + 1,none⟩ = some (.int .i64 ((rd_T30 l1 aa).f1)) ∧ w'.cell? ⟨(ac.add ((aa).toNat * 6)).block,(ac.add ((aa).toNat * 6)).off + 2,none⟩ = some (.int .i64 ((rd_T30 l1 aa).f2)) ∧ w'.cell? ⟨(ac.add ((aa).toNat * 6)).block,(ac.add ((aa).toNat * 6)).off + 3,none⟩ = some (.slice a2 ((rd_T30 l1 aa).f3).length a3) ∧ w'.cell? ⟨(ac.add ((aa).toNat * 6)).block,(ac.add ((aa).toNat * 6)).off + 4,none⟩ = some (.slice a4 ((rd_T30 l1 aa).f4).length a5) ∧ w'.cell? ⟨(ac.add ((aa).toNat * 6)).block,(ac.add ((aa).toNat * 6)).off + 5,none⟩ = some (.slice a6 ((rd_T30 l1 aa).f5).length a7)) (ds := []) (bA 10 0) (by kernel_rfl) rfl rfl ⟨((HB.out.cell (World.block_lt_of_cell? w _ ao)).trans ao),((HB.out.cell (World.block_lt_of_cell? w _ an)).trans an),((HB.out.cell (World.block_lt_of_cell? w _ am)).trans am),((HB.out.cell (World.block_lt_of_cell? w _ al)).trans al),((HB.out.cell (World.block_lt_of_cell? w _ ak)).trans ak),((HB.out.cell (World.block_lt_of_cell? w _ aj)).trans aj),((HB.out.cell (World.block_lt_of_cell? w _ aC)).trans aC),((HB.out.cell (World.block_lt_of_cell? w _ aB)).trans aB),((HB.out.cell (World.block_lt_of_cell? w _ aA)).trans aA),((HB.out.cell (World.block_lt_of_cell? w _ az)).trans az),((HB.out.cell (World.block_lt_of_cell? w _ ay)).trans ay),((HB.out.cell (World.block_lt_of_cell? w _ ax)).trans ax)⟩ (fun hHeld => ?_);refine with_tabW r33_SameAll.tab6 r33_SameAll.bits6 (fun HT_ HW_ => ?_)
      generalize wr.drew = w9 at HB aJ aL aM aT aU aV ad ae af ag ah ai ap aq ar au av aw hHeld ⊢
      refine pure_ (i := 0) (N := some 17) (v := ?_) (a' := ?_) (bA 10 1) rfl rfl (any_of HT_.out (by kernel_rfl)) (fun _ _ _ h => h) (Or.inl ⟨by rfl,?_⟩) ?_ ?_
      rotate_left
      ·intro w'
       go_simp
       with_reducible rfl
      rotate_left
      ·simp only [Act.put,z1_,z2_,z3_,i64_w,i32_w]
       rfl
      refine pure_ (i := 1) (N := some 18) (v := ?_) (a' := ?_) (bA 10 3) rfl rfl (any_of HT_.out (by kernel_rfl)) (fun _ _ _ h => h) (Or.inl ⟨by rfl,?_⟩) ?_ ?_
      rotate_left
      ·intro w'
       go_simp
       with_reducible rfl
      rotate_left
      ·simp only [Act.put,z1_,z2_,z3_,i64_w,i32_w]
       rfl
      refine pure_ (i := 2) (N := some 19) (v := ?_) (a' := ?_) (bA 10 7) rfl rfl (any_of HT_.out (by kernel_rfl)) (fun _ _ _ h => h) (Or.inl ⟨by rfl,?_⟩) ?_ ?_
      rotate_left
      ·intro w'
       go_simp
       with_reducible rfl
      rotate_left
      ·simp only [Act.put,z1_,z2_,z3_,i64_w,i32_w]
       rfl
      refine pure_ (i := 4) (N := some 21) (v := ?_) (a' := ?_) (bA 10 23) rfl rfl (any_of HT_.out (by kernel_rfl)) (fun _ _ _ h => h) (Or.inl ⟨by rfl,?_⟩) ?_ ?_
      rotate_left
      ·intro w'
       go_simp
       with_reducible rfl
      rotate_left
      ·simp only [Act.put,z1_,z2_,z3_,i64_w,i32_w]
       rfl
      refine pure_ (i := 5) (N := some 22) (v := ?_) (a' := ?_) (bA 10 55) rfl rfl (any_of HT_.out (by kernel_rfl)) (fun _ _ _ h => h) (Or.inl ⟨by rfl,?_⟩) ?_ ?_
      rotate_left
      ·intro w'
       go_simp
       with_reducible rfl
      rotate_left
      ·simp only [Act.put,z1_,z2_,z3_,i64_w,i32_w]
       rfl
      refine pure_ (i := 6) (N := some 23) (v := ?_) (a' := ?_) (bA 10 119) rfl rfl (any_of HT_.out (by kernel_rfl)) (fun _ _ _ h => h) (Or.inl ⟨by rfl,?_⟩) ?_ ?_
      rotate_left
      ·intro w'
       go_simp
       with_reducible rfl
      rotate_left
      ·simp only [Act.put,z1_,z2_,z3_,i64_w,i32_w]
       rfl
      refine take_ (i := 3) (N := some 20) (v := ?_) (a' := ?_) (bA 10 127) rfl rfl (take_ofW HT_.out HW_.out (by kernel_rfl)) (fun _ _ _ h => h) (Or.inl ⟨by rfl,?_⟩) hHeld ?_ ?_
      rotate_left
      ·rintro w' ⟨s0,s1,s2,s3,s4,s5,s6,s7,s8,s9,bI,bJ⟩
       go_simp
       with_reducible rfl
      rotate_left
      ·simp only [Act.put,z1_,z2_,z3_,i64_w,i32_w]
       rfl
      refine take_ (i := 7) (N := some 24) (v := ?_) (a' := ?_) (bA 10 255) rfl rfl (take_ofW HT_.out HW_.out (by kernel_rfl)) (fun _ _ _ h => h) (Or.inl ⟨by rfl,?_⟩) hHeld ?_ ?_
      rotate_left
      ·rintro w' ⟨s0,s1,s2,s3,s4,s5,s6,s7,s8,s9,bI,bJ⟩
       go_simp
       with_reducible rfl
      rotate_left
      ·simp only [Act.put,z1_,z2_,z3_,i64_w,i32_w]
       rfl
      refine one_ (i := 8) (N := some 25) (bA 10 511) rfl rfl (one_of HT_.out (by kernel_rfl)) (by decide) (fun K hK => ?_)
      refine goes_ Tryz.func14 (by kernel_rfl) rfl #[.agg #[.int .i64 ((rd_T30 l0 aa).f0),.int .i64 ((rd_T30 l0 aa).f1),.int .i64 ((rd_T30 l0 aa).f2),.slice aW ((rd_T30 l0 aa).f3).length aX,.slice aY ((rd_T30 l0 aa).f4).length aZ,.slice a0 ((rd_T30 l0 aa).f5).length a1],.agg #[.int .i64 ((rd_T30 l1 aa).f0),.int .i64 ((rd_T30 l1 aa).f1),.int .i64 ((rd_T30 l1 aa).f2),.slice a2 ((rd_T30 l1 aa).f3).length a3,.slice a4 ((rd_T30 l1 aa).f4).length a5,.slice a6 ((rd_T30 l1 aa).f5).length a7]] (by rfl) rfl rfl (by (try simp only [z4_,z5_,z6_]);first|done|rfl|(simp only [z7_,z8_];rfl)) ?_
      with_reducible refine (r33_Same.calls k1 ((rd_T30 l0 aa).f0) ((rd_T30 l0 aa).f1) ((rd_T30 l0 aa).f2) _ _ ((rd_T30 l0 aa).f3) _ _ ((rd_T30 l0 aa).f4) _ _ ((rd_T30 l0 aa).f5) ((rd_T30 l1 aa).f0) ((rd_T30 l1 aa).f1) ((rd_T30 l1 aa).f2) _ _ ((rd_T30 l1 aa).f3) _ _ ((rd_T30 l1 aa).f4) _ _ ((rd_T30 l1 aa).f5) true _ ?bn ?bo ?bp ?bq ?br ?bs ?bu ?bv ?bx ?bi ?bj ?bk A7.out).mono ?_
      (case bn => exact cM (Kd.C_below aJ.out HB.out))
      (case bo => exact a8.out)
      (case bp => exact cM (Kd.C_below aL.out HB.out))
      (case bq => exact a9.out)
      (case br => exact cM (Kd.C_below aM.out HB.out))
      (case bs => exact ba.out)
      (case bu => exact cM (Kd.C_below aT.out HB.out))
      (case bv => exact bb.out)
      (case bx => exact cM (Kd.C_below aU.out HB.out))
      (case bi => exact bc.out)
      (case bj => exact cM (Kd.C_below aV.out HB.out))
      (case bk => exact bd.out)
      rintro e bY ⟨rfl,hb⟩
      refine ⟨_,rfl,?_⟩
      have bm := aK (below_step (bM HB.out) hb)
      clear HB
      have HB := bm
      clear bm
      (try clear hb)
      refine hK.out _ _ ⟨((HB.out.cell (World.block_lt_of_cell? w _ ao)).trans ao),((HB.out.cell (World.block_lt_of_cell? w _ an)).trans an),((HB.out.cell (World.block_lt_of_cell? w _ am)).trans am),((HB.out.cell (World.block_lt_of_cell? w _ al)).trans al),((HB.out.cell (World.block_lt_of_cell? w _ ak)).trans ak),((HB.out.cell (World.block_lt_of_cell? w _ aj)).trans aj),((HB.out.cell (World.block_lt_of_cell? w _ aC)).trans aC),((HB.out.cell (World.block_lt_of_cell? w _ aB)).trans aB),((HB.out.cell (World.block_lt_of_cell? w _ aA)).trans aA),((HB.out.cell (World.block_lt_of_cell? w _ az)).trans az),((HB.out.cell (World.block_lt_of_cell? w _ ay)).trans ay),((HB.out.cell (World.block_lt_of_cell? w _ ax)).trans ax)⟩ (fun hHeld => ?_)
      clear hK K
      refine norm_ (a' := ?_) ?_ ?_
      rotate_left
      ·show Act.put _ (some 25) _ = _
       simp only [Act.put,z1_,z2_,z3_,i64_w,i32_w]
       rfl
      refine pure_ (i := 9) (N := some 26) (v := ?_) (a' := ?_) (bA 10 1023) rfl rfl (any_of HT_.out (by kernel_rfl)) (fun _ _ _ h => h) (Or.inl ⟨by rfl,?_⟩) ?_ ?_
      rotate_left
      ·intro w'
       go_simp
       with_reducible rfl
      rotate_left
      ·simp only [Act.put,z1_,z2_,z3_,i64_w,i32_w]
       rfl
      refine done_ (done_of HT_.out (by kernel_rfl)) ?_
      try go_wp2
      go_roundg k1
      case measure => have := bR.out;omega
      case rel => exact ⟨(wrap64 (aa + 1)),(by first|rfl|(simp;done)|(simp [*];done)),H',⟨by have := bR.out;omega⟩,⟨bM HB.out⟩⟩
     ·replace c8 := Bool.eq_false_iff.mpr c8
      subst c8
      rw [if_neg (show ¬ (false = true) by decide)] at H
      obtain rfl := Option.some.inj H
      try go_wp2
      have bm := aK (below_drew1 HB.out)
      clear HB
      have HB := bm
      clear bm
      have be : 0 ≤ (aa : Int) := dA
      have bf : aa < (l0.length : Int) := dA
      obtain ⟨ab,aW,aX,aY,aZ,a0,a1,bz,ad,ae,af,ag,ah,ai,aD,aE,aF,aG,aH,aI⟩ := at_T30 bP.out aa be bf
      have aj := ai
      have ak := ah
      have al := ag
      have am := af
      have an := ae
      have ao := ad
      cases bz
      replace ad := xM HB ad
      replace ae := xM HB ae
      replace af := xM HB af
      replace ag := xM HB ag
      replace ah := xM HB ah
      replace ai := xM HB ai
      have aJ := aK aE
      have a8 := aK aD
      clear aE aD
      have aL := aK aG
      have a9 := aK aF
      clear aG aF
      have aM := aK aI
      have ba := aK aH
      clear aI aH
      replace be := eq_true be
      replace bf := eq_true bf
      have bg : 0 ≤ (aa : Int) := dA
      have bh : aa < (l1.length : Int) := dA
      obtain ⟨ac,a2,a3,a4,a5,a6,a7,bB,ap,aq,ar,au,av,aw,aN,aO,aP,aQ,aR,aS⟩ := at_T30 bQ.out aa bg bh
      have ax := aw
      have ay := av
      have az := au
      have aA := ar
      have aB := aq
      have aC := ap
      cases bB
      replace ap := xM HB ap
      replace aq := xM HB aq
      replace ar := xM HB ar
      replace au := xM HB au
      replace av := xM HB av
      replace aw := xM HB aw
      have aT := aK aO
      have bb := aK aN
      clear aO aN
      have aU := aK aQ
      have bc := aK aP
      clear aQ aP
      have aV := aK aS
      have bd := aK aR
      clear aS aR
      replace bg := eq_true bg
      replace bh := eq_true bh
      refine start_ (n := 10) (S := fun w' => w'.cell? (ab.add ((aa).toNat * 6)) = some (.int .i64 ((rd_T30 l0 aa).f0)) ∧ w'.cell? ⟨(ab.add ((aa).toNat * 6)).block,(ab.add ((aa).toNat * 6)).off + 1,none⟩ = some (.int .i64 ((rd_T30 l0 aa).f1)) ∧ w'.cell? ⟨(ab.add ((aa).toNat * 6)).block,(ab.add ((aa).toNat * 6)).off + 2,none⟩ = some (.int .i64 ((rd_T30 l0 aa).f2)) ∧ w'.cell? ⟨(ab.add ((aa).toNat * 6)).block,(ab.add ((aa).toNat * 6)).off + 3,none⟩ = some (.slice aW ((rd_T30 l0 aa).f3).length aX) ∧ w'.cell? ⟨(ab.add ((aa).toNat * 6)).block,(ab.add ((aa).toNat * 6)).off + 4,none⟩ = some (.slice aY ((rd_T30 l0 aa).f4).length aZ) ∧ w'.cell? ⟨(ab.add ((aa).toNat * 6)).block,(ab.add ((aa).toNat * 6)).off + 5,none⟩ = some (.slice a0 ((rd_T30 l0 aa).f5).length a1) ∧ w'.cell? (ac.add ((aa).toNat * 6)) = some (.int .i64 ((rd_T30 l1 aa).f0)) ∧ w'.cell? ⟨(ac.add ((aa).toNat * 6)).block,(ac.add ((aa).toNat * 6)).off + 1,none⟩ = some (.int .i64 ((rd_T30 l1 aa).f1)) ∧ w'.cell? ⟨(ac.add ((aa).toNat * 6)).block,(ac.add ((aa).toNat * 6)).off + 2,none⟩ = some (.int .i64 ((rd_T30 l1 aa).f2)) ∧ w'.cell? ⟨(ac.add ((aa).toNat * 6)).block,(ac.add ((aa).toNat * 6)).off + 3,none⟩ = some (.slice a2 ((rd_T30 l1 aa).f3).length a3) ∧ w'.cell? ⟨(ac.add ((aa).toNat * 6)).block,(ac.add ((aa).toNat * 6)).off + 4,none⟩ = some (.slice a4 ((rd_T30 l1 aa).f4).length a5) ∧ w'.cell? ⟨(ac.add ((aa).toNat * 6)).block,(ac.add ((aa).toNat * 6)).off + 5,none⟩ = some (.slice a6 ((rd_T30 l1 aa).f5).length a7)) (ds := []) (bA 10 0) (by kernel_rfl) rfl rfl ⟨((HB.out.cell (World.block_lt_of_cell? w _ ao)).trans ao),((HB.out.cell (World.block_lt_of_cell? w _ an)).trans an),((HB.out.cell (World.block_lt_of_cell? w _ am)).trans am),((HB.out.cell (World.block_lt_of_cell? w _ al)).trans al),((HB.out.cell (World.block_lt_of_cell? w _ ak)).trans ak),((HB.out.cell (World.block_lt_of_cell? w _ aj)).trans aj),((HB.out.cell (World.block_lt_of_cell? w _ aC)).trans aC),((HB.out.cell (World.block_lt_of_cell? w _ aB)).trans aB),((HB.out.cell (World.block_lt_of_cell? w _ aA)).trans aA),((HB.out.cell (World.block_lt_of_cell? w _ az)).trans az),((HB.out.cell (World.block_lt_of_cell? w _ ay)).trans ay),((HB.out.cell (World.block_lt_of_cell? w _ ax)).trans ax)⟩ (fun hHeld => ?_);refine with_tabW r33_SameAll.tab6 r33_SameAll.bits6 (fun HT_ HW_ => ?_)
      generalize wr.drew = w11 at HB aJ aL aM aT aU aV ad ae af ag ah ai ap aq ar au av aw hHeld ⊢
      refine pure_ (i := 0) (N := some 17) (v := ?_) (a' := ?_) (bA 10 1) rfl rfl (any_of HT_.out (by kernel_rfl)) (fun _ _ _ h => h) (Or.inl ⟨by rfl,?_⟩) ?_ ?_
      rotate_left
      ·intro w'
       go_simp
       with_reducible rfl
      rotate_left
      ·simp only [Act.put,z1_,z2_,z3_,i64_w,i32_w]
       rfl
      refine pure_ (i := 1) (N := some 18) (v := ?_) (a' := ?_) (bA 10 3) rfl rfl (any_of HT_.out (by kernel_rfl)) (fun _ _ _ h => h) (Or.inl ⟨by rfl,?_⟩) ?_ ?_
      rotate_left
      ·intro w'
       go_simp
       with_reducible rfl
      rotate_left
      ·simp only [Act.put,z1_,z2_,z3_,i64_w,i32_w]
       rfl
      refine pure_ (i := 2) (N := some 19) (v := ?_) (a' := ?_) (bA 10 7) rfl rfl (any_of HT_.out (by kernel_rfl)) (fun _ _ _ h => h) (Or.inl ⟨by rfl,?_⟩) ?_ ?_
      rotate_left
      ·intro w'
       go_simp
       with_reducible rfl
      rotate_left
      ·simp only [Act.put,z1_,z2_,z3_,i64_w,i32_w]
       rfl
      refine pure_ (i := 4) (N := some 21) (v := ?_) (a' := ?_) (bA 10 23) rfl rfl (any_of HT_.out (by kernel_rfl)) (fun _ _ _ h => h) (Or.inl ⟨by rfl,?_⟩) ?_ ?_
      rotate_left
      ·intro w'
       go_simp
       with_reducible rfl
      rotate_left
      ·simp only [Act.put,z1_,z2_,z3_,i64_w,i32_w]
       rfl
      refine pure_ (i := 5) (N := some 22) (v := ?_) (a' := ?_) (bA 10 55) rfl rfl (any_of HT_.out (by kernel_rfl)) (fun _ _ _ h => h) (Or.inl ⟨by rfl,?_⟩) ?_ ?_
      rotate_left
      ·intro w'
       go_simp
       with_reducible rfl
      rotate_left
      ·simp only [Act.put,z1_,z2_,z3_,i64_w,i32_w]
       rfl
      refine pure_ (i := 6) (N := some 23) (v := ?_) (a' := ?_) (bA 10 119) rfl rfl (any_of HT_.out (by kernel_rfl)) (fun _ _ _ h => h) (Or.inl ⟨by rfl,?_⟩) ?_ ?_
      rotate_left
      ·intro w'
       go_simp
       with_reducible rfl
      rotate_left
      ·simp only [Act.put,z1_,z2_,z3_,i64_w,i32_w]
       rfl
      refine take_ (i := 3) (N := some 20) (v := ?_) (a' := ?_) (bA 10 127) rfl rfl (take_ofW HT_.out HW_.out (by kernel_rfl)) (fun _ _ _ h => h) (Or.inl ⟨by rfl,?_⟩) hHeld ?_ ?_
      rotate_left
      ·rintro w' ⟨s0,s1,s2,s3,s4,s5,s6,s7,s8,s9,bI,bJ⟩
       go_simp
       with_reducible rfl
      rotate_left
      ·simp only [Act.put,z1_,z2_,z3_,i64_w,i32_w]
       rfl
      refine take_ (i := 7) (N := some 24) (v := ?_) (a' := ?_) (bA 10 255) rfl rfl (take_ofW HT_.out HW_.out (by kernel_rfl)) (fun _ _ _ h => h) (Or.inl ⟨by rfl,?_⟩) hHeld ?_ ?_
      rotate_left
      ·rintro w' ⟨s0,s1,s2,s3,s4,s5,s6,s7,s8,s9,bI,bJ⟩
       go_simp
       with_reducible rfl
      rotate_left
      ·simp only [Act.put,z1_,z2_,z3_,i64_w,i32_w]
       rfl
      refine one_ (i := 8) (N := some 25) (bA 10 511) rfl rfl (one_of HT_.out (by kernel_rfl)) (by decide) (fun K hK => ?_)
      refine goes_ Tryz.func14 (by kernel_rfl) rfl #[.agg #[.int .i64 ((rd_T30 l0 aa).f0),.int .i64 ((rd_T30 l0 aa).f1),.int .i64 ((rd_T30 l0 aa).f2),.slice aW ((rd_T30 l0 aa).f3).length aX,.slice aY ((rd_T30 l0 aa).f4).length aZ,.slice a0 ((rd_T30 l0 aa).f5).length a1],.agg #[.int .i64 ((rd_T30 l1 aa).f0),.int .i64 ((rd_T30 l1 aa).f1),.int .i64 ((rd_T30 l1 aa).f2),.slice a2 ((rd_T30 l1 aa).f3).length a3,.slice a4 ((rd_T30 l1 aa).f4).length a5,.slice a6 ((rd_T30 l1 aa).f5).length a7]] (by rfl) rfl rfl (by (try simp only [z4_,z5_,z6_]);first|done|rfl|(simp only [z7_,z8_];rfl)) ?_
      with_reducible refine (r33_Same.calls k1 ((rd_T30 l0 aa).f0) ((rd_T30 l0 aa).f1) ((rd_T30 l0 aa).f2) _ _ ((rd_T30 l0 aa).f3) _ _ ((rd_T30 l0 aa).f4) _ _ ((rd_T30 l0 aa).f5) ((rd_T30 l1 aa).f0) ((rd_T30 l1 aa).f1) ((rd_T30 l1 aa).f2) _ _ ((rd_T30 l1 aa).f3) _ _ ((rd_T30 l1 aa).f4) _ _ ((rd_T30 l1 aa).f5) false _ ?bn ?bo ?bp ?bq ?br ?bs ?bu ?bv ?bx ?bi ?bj ?bk A7.out).mono ?_
      (case bn => exact cM (Kd.C_below aJ.out HB.out))
      (case bo => exact a8.out)
      (case bp => exact cM (Kd.C_below aL.out HB.out))
      (case bq => exact a9.out)
      (case br => exact cM (Kd.C_below aM.out HB.out))
      (case bs => exact ba.out)
      (case bu => exact cM (Kd.C_below aT.out HB.out))
      (case bv => exact bb.out)
      (case bx => exact cM (Kd.C_below aU.out HB.out))
      (case bi => exact bc.out)
      (case bj => exact cM (Kd.C_below aV.out HB.out))
      (case bk => exact bd.out)
      rintro e bZ ⟨rfl,hb⟩
      refine ⟨_,rfl,?_⟩
      have bm := aK (below_step (bM HB.out) hb)
      clear HB
      have HB := bm
      clear bm
      (try clear hb)
      refine hK.out _ _ ⟨((HB.out.cell (World.block_lt_of_cell? w _ ao)).trans ao),((HB.out.cell (World.block_lt_of_cell? w _ an)).trans an),((HB.out.cell (World.block_lt_of_cell? w _ am)).trans am),((HB.out.cell (World.block_lt_of_cell? w _ al)).trans al),((HB.out.cell (World.block_lt_of_cell? w _ ak)).trans ak),((HB.out.cell (World.block_lt_of_cell? w _ aj)).trans aj),((HB.out.cell (World.block_lt_of_cell? w _ aC)).trans aC),((HB.out.cell (World.block_lt_of_cell? w _ aB)).trans aB),((HB.out.cell (World.block_lt_of_cell? w _ aA)).trans aA),((HB.out.cell (World.block_lt_of_cell? w _ az)).trans az),((HB.out.cell (World.block_lt_of_cell? w _ ay)).trans ay),((HB.out.cell (World.block_lt_of_cell? w _ ax)).trans ax)⟩ (fun hHeld => ?_)
      clear hK K
      refine norm_ (a' := ?_) ?_ ?_
      rotate_left
      ·show Act.put _ (some 25) _ = _
       simp only [Act.put,z1_,z2_,z3_,i64_w,i32_w]
       rfl
      refine pure_ (i := 9) (N := some 26) (v := ?_) (a' := ?_) (bA 10 1023) rfl rfl (any_of HT_.out (by kernel_rfl)) (fun _ _ _ h => h) (Or.inl ⟨by rfl,?_⟩) ?_ ?_
      rotate_left
      ·intro w'
       go_simp
       with_reducible rfl
      rotate_left
      ·simp only [Act.put,z1_,z2_,z3_,i64_w,i32_w]
       rfl
      refine done_ (done_of HT_.out (by kernel_rfl)) ?_
      try go_wp2
      go_ret
      exact ⟨by first|rfl|(simp [errW_none,errW_some] <;> rfl)|(simp [*,errW_none,errW_some] <;> rfl),bM HB.out⟩
    ·rw [if_neg c4] at H
     have bF := decide_eq_false c4
     clear c4
     obtain rfl := Option.some.inj H
     go_wp2
     go_ret
     exact ⟨by first|rfl|(simp [errW_none,errW_some] <;> rfl)|(simp [*,errW_none,errW_some] <;> rfl),bM HB.out⟩
 ·rw [if_neg c3] at H
  have bC := beq_eq_false_iff_ne.mpr c3
  have bD := bne_iff_ne.mpr c3
  have bE : (l0.length == l1.length) = false := by first|simpa using c3|(simp at c3 ⊢;omega)
  obtain rfl := Option.some.inj H
  go_enter Tryz.func19,Tryz.ntmps19
  go_wp2
  go_ret
  exact ⟨by first|rfl|(simp [errW_none,errW_some] <;> rfl)|(simp [*,errW_none,errW_some] <;> rfl),bM HB.out⟩
def l33_example.f  : Option ((List (S30))) := some (([(⟨1, 1, 1, ([] : List Int), ([] : List Int), ([] : List ByteArray)⟩ : S30), (⟨2, 1, 2, ([] : List Int), ([] : List Int), ([] : List ByteArray)⟩ : S30), (⟨3, 2, 0, (([7, 9] : List Int)), ([] : List Int), ([] : List ByteArray)⟩ : S30), (⟨4, 3, 3, ([] : List Int), (([1, 2] : List Int)), ([] : List ByteArray)⟩ : S30)] : List (S30)))
theorem l33_example.calls  (r : List (S30)) (w : World) (h : l33_example.f  = some r) :
  Calls Tryz.prog 20 #[] w fun e w' => ∃ aq : Value,e = .returned (aq) ∧ Kd.N k30 30 w' w.heap.size (fun k_ => (w.heap.size ≤ k_)) aq r ∧ Below w.heap.size w w' := by
 have ax := Tryz.underlying30
 have HB := aK (Below.refl w.heap.size w)
 unfold l33_example.f at h
 have H := h
 clear h
 obtain ⟨ab,ac⟩ : ∃ y_ : List Int,y_ = (([7,9] : List Int)) := ⟨_,rfl⟩
 replace H : (some (([(⟨1,1,1,([] : List Int),([] : List Int),([] : List ByteArray)⟩ : S30),(⟨2,1,2,([] : List Int),([] : List Int),([] : List ByteArray)⟩ : S30),(⟨3,2,0,ab,([] : List Int),([] : List ByteArray)⟩ : S30),(⟨4,3,3,([] : List Int),(([1,2] : List Int)),([] : List ByteArray)⟩ : S30)] : List (S30)))) = some r := by first|(rw [ac];with_reducible exact H)|(have ag := (Option.bind_some _ _).symm.trans H;rw [ac];with_reducible exact ag)|(have ag := (Option.bind_some _ _).symm.trans H;with_reducible exact ag)|with_reducible exact H|(rw [ac];exact H)|exact H
 have ai := aK ac
 clear ac
 obtain ⟨af,ad⟩ : ∃ y_ : List Int,y_ = (([1,2] : List Int)) := ⟨_,rfl⟩
 replace H : (some (([(⟨1,1,1,([] : List Int),([] : List Int),([] : List ByteArray)⟩ : S30),(⟨2,1,2,([] : List Int),([] : List Int),([] : List ByteArray)⟩ : S30),(⟨3,2,0,ab,([] : List Int),([] : List ByteArray)⟩ : S30),(⟨4,3,3,([] : List Int),af,([] : List ByteArray)⟩ : S30)] : List (S30)))) = some r := by first|(rw [ad];with_reducible exact H)|(have ag := (Option.bind_some _ _).symm.trans H;rw [ad];with_reducible exact ag)|(have ag := (Option.bind_some _ _).symm.trans H;with_reducible exact ag)|with_reducible exact H|(rw [ad];exact H)|exact H
 have aj := aK ad
 clear ad
 obtain ⟨ap,ae⟩ : ∃ y_ : List (S30),y_ = (([(⟨1,1,1,([] : List Int),([] : List Int),([] : List ByteArray)⟩ : S30),(⟨2,1,2,([] : List Int),([] : List Int),([] : List ByteArray)⟩ : S30),(⟨3,2,0,ab,([] : List Int),([] : List ByteArray)⟩ : S30),(⟨4,3,3,([] : List Int),af,([] : List ByteArray)⟩ : S30)] : List (S30))) := ⟨_,rfl⟩
 replace H : (some ap) = some r := by first|(rw [ae];with_reducible exact H)|(have ag := (Option.bind_some _ _).symm.trans H;rw [ae];with_reducible exact ag)|(have ag := (Option.bind_some _ _).symm.trans H;with_reducible exact ag)|with_reducible exact H|(rw [ae];exact H)|exact H
 have ak := aK ae
 clear ae
 obtain rfl := Option.some.inj H
 go_enter Tryz.func20,Tryz.ntmps20
 go_wp2_with (first|((with_reducible refine gate_dst (N := 3) rfl ?_);refine Kd.R_lit (Kd.int .i64) _ 3 ?hg (N := 3) ?hd (xs := ([7,9] : List Int)) (inner := [.int .i64 7,.int .i64 9]) (ok := fun _ => True) (okp := fun _ => True) ?hr ?hp (fun _ hk => hk) trivial (Below.refl _ _) (Nat.le_refl _) (by simp) ?_;(case hd => rfl);(case hg => rfl);(case hr => first|(go_simp;done)|(go_simp;rfl));(case hp => exact (Reps.one (show Kd.M (Kd.int .i64) _ _ _ 7 [.int .i64 7] from rfl) (Reps.one (show Kd.M (Kd.int .i64) _ _ _ 9 [.int .i64 9] from rfl) (Reps.none _ _))));intro ay w1 am hb hg_ hnew_;clear hg_ hnew_;(first|rw [← ai.out] at am|(simp only [Int.reduceToNat] at am;rw [← ai.out] at am));have aa := aK (Kd.R_lower (Kd.R_newM (M := fun k_ => (w.heap.size ≤ k_)) am (below_size (bM HB.out)) (fun k_ h_ => h_)) (below_size (bM HB.out)));replace HB := aK (below_step (bM HB.out) hb);clear hb am;obtain ⟨ar,au,az⟩ := Kd.R_slice aa.out;subst az)|((with_reducible refine gate_dst (N := 5) rfl ?_);refine Kd.R_lit (Kd.int .i64) _ 3 ?hg (N := 5) ?hd (xs := ([1,2] : List Int)) (inner := [.int .i64 1,.int .i64 2]) (ok := fun _ => True) (okp := fun _ => True) ?hr ?hp (fun _ hk => hk) trivial (Below.refl _ _) (Nat.le_refl _) (by simp) ?_;(case hd => rfl);(case hg => rfl);(case hr => first|(go_simp;done)|(go_simp;rfl));(case hp => exact (Reps.one (show Kd.M (Kd.int .i64) _ _ _ 1 [.int .i64 1] from rfl) (Reps.one (show Kd.M (Kd.int .i64) _ _ _ 2 [.int .i64 2] from rfl) (Reps.none _ _))));intro aA w4 al hb hg_ hnew_;clear hg_ hnew_;(first|rw [← aj.out] at al|(simp only [Int.reduceToNat] at al;rw [← aj.out] at al));have ah := aK (Kd.R_lower (Kd.R_new' (Kd.R_newM (M := fun k_ => (w.heap.size ≤ k_)) al (below_size (bM HB.out)) (fun k_ h_ => h_)) (Kd.R_lt (rM aa.out))) (below_size (bM HB.out)));replace aa := aK (Kd.R_elder' (rM aa.out) (Kd.R_base al) hb);replace HB := aK (below_step (bM HB.out) hb);clear hb al;obtain ⟨av,aw,aB⟩ := Kd.R_slice ah.out;subst aB)|((with_reducible refine gate_dst (N := 7) rfl ?_);refine Kd.N_lit k30 _ 30 ?hg (N' := 7) ?hd (xs := ([(⟨1,1,1,([] : List Int),([] : List Int),([] : List ByteArray)⟩ : S30),(⟨2,1,2,([] : List Int),([] : List Int),([] : List ByteArray)⟩ : S30),(⟨3,2,0,ab,([] : List Int),([] : List ByteArray)⟩ : S30),(⟨4,3,3,([] : List Int),af,([] : List ByteArray)⟩ : S30)] : List (S30))) (inner := [.int .i64 1,.int .i64 1,.int .i64 1,.slice none 0 0,.slice none 0 0,.slice none 0 0,.int .i64 2,.int .i64 1,.int .i64 2,.slice none 0 0,.slice none 0 0,.slice none 0 0,.int .i64 3,.int .i64 2,.int .i64 0,.slice ar ab.length au,.slice none 0 0,.slice none 0 0,.int .i64 4,.int .i64 3,.int .i64 3,.slice none 0 0,.slice av af.length aw,.slice none 0 0]) (ok := (fun k_ => (w.heap.size ≤ k_))) (okp := (fun k_ => (w.heap.size ≤ k_))) ?hr ?hp (fun _ hk => hk) ((show ∀ k_,w4.heap.size ≤ k_ → (fun k_ => (w.heap.size ≤ k_)) k_ from fun k_ hk => (Nat.le_trans (below_size (bM HB.out)) hk)) _ (Nat.le_refl _)) (Below.refl _ _) (Nat.le_refl _) (by simp) ?_;(case hd => rfl);(case hg => rfl);(case hr => first|(go_simp;done)|(go_simp;rfl));(case hp => exact (Reps.c6 (show Kd.FK k30 _ _ (⟨1,1,1,([] : List Int),([] : List Int),([] : List ByteArray)⟩ : S30) [.int .i64 1,.int .i64 1,.int .i64 1,.slice none 0 0,.slice none 0 0,.slice none 0 0] from (k30_mkF _ _ (⟨1,1,1,([] : List Int),([] : List Int),([] : List ByteArray)⟩ : S30) (Nat.le_refl _) (Kd.F_nil _ _ _) (Nat.le_refl _) (Kd.F_nil _ _ _) (Nat.le_refl _) (Kd.F_nil _ _ _))) (Reps.c6 (show Kd.FK k30 _ _ (⟨2,1,2,([] : List Int),([] : List Int),([] : List ByteArray)⟩ : S30) [.int .i64 2,.int .i64 1,.int .i64 2,.slice none 0 0,.slice none 0 0,.slice none 0 0] from (k30_mkF _ _ (⟨2,1,2,([] : List Int),([] : List Int),([] : List ByteArray)⟩ : S30) (Nat.le_refl _) (Kd.F_nil _ _ _) (Nat.le_refl _) (Kd.F_nil _ _ _) (Nat.le_refl _) (Kd.F_nil _ _ _))) (Reps.c6 (show Kd.FK k30 _ _ (⟨3,2,0,ab,([] : List Int),([] : List ByteArray)⟩ : S30) [.int .i64 3,.int .i64 2,.int .i64 0,.slice ar ab.length au,.slice none 0 0,.slice none 0 0] from (k30_mkF _ _ (⟨3,2,0,ab,([] : List Int),([] : List ByteArray)⟩ : S30) (Kd.R_reads' (Kd.R_mono (ok' := (fun k_ => (w.heap.size ≤ k_))) (aa.out) (fun k_ hk => hk.1.1))).2.1 (Kd.R_F (Kd.R_mono (ok' := (fun k_ => (w.heap.size ≤ k_))) (aa.out) (fun k_ hk => hk.1.1))) (Nat.le_refl _) (Kd.F_nil _ _ _) (Nat.le_refl _) (Kd.F_nil _ _ _))) (Reps.c6 (show Kd.FK k30 _ _ (⟨4,3,3,([] : List Int),af,([] : List ByteArray)⟩ : S30) [.int .i64 4,.int .i64 3,.int .i64 3,.slice none 0 0,.slice av af.length aw,.slice none 0 0] from (k30_mkF _ _ (⟨4,3,3,([] : List Int),af,([] : List ByteArray)⟩ : S30) (Nat.le_refl _) (Kd.F_nil _ _ _) (Kd.R_reads' (Kd.R_mono (ok' := (fun k_ => (w.heap.size ≤ k_))) (ah.out) (fun k_ hk => hk.1.1))).2.1 (Kd.R_F (Kd.R_mono (ok' := (fun k_ => (w.heap.size ≤ k_))) (ah.out) (fun k_ hk => hk.1.1))) (Nat.le_refl _) (Kd.F_nil _ _ _))) (Reps.none _ _))))));intro aC w7 an hb hg_ hnew_;clear hg_ hnew_;(first|rw [← ak.out] at an|(simp only [Int.reduceToNat] at an;rw [← ak.out] at an));have ao := aK (Kd.N_lower an (below_size (bM HB.out)));replace HB := aK (below_step (bM HB.out) hb);clear hb an))
 go_ret
 exact ⟨_,by first|rfl|(simp [errW_none,errW_some] <;> rfl)|(simp [*,errW_none,errW_some] <;> rfl),nM ao.out,bM HB.out⟩
def manifest_run.l0 : Nat → List (S30) → Int → Int → List Int → List Int → Int → Option (List Int × List Int × Int)
|0,_,_,_,_,_,_ => none
|k + 1,x7,x8,x9,aa,ab,ac => if x9 < x8 then (if 0 ≤ x9 then (if x9 < (x7.length : Int) then ((manifest_state_after.f k aa ab ac ((rd_T30 x7 x9).f0) ((rd_T30 x7 x9).f1) ((rd_T30 x7 x9).f2) ((rd_T30 x7 x9).f3) ((rd_T30 x7 x9).f4) ((rd_T30 x7 x9).f5)).bind fun ad => (manifest_run.l0 k x7 x8 (wrap64 (x9 + 1)) ad.1 ad.2.1 ad.2.2)) else (none)) else (none)) else (some (aa,ab,ac))
def manifest_run.f (k : Nat) (l0 : List (S30)) : Option (List Int × List Int × Int) := manifest_run.l0 k l0 (l0.length : Int) 0 ([] : List Int) ([] : List Int) 0
theorem manifest_run.mono_l : ∀ k, (∀ y0 y1 y2 y3 y4 y5, LeO (manifest_run.l0 k y0 y1 y2 y3 y4 y5) (manifest_run.l0 (k + 1) y0 y1 y2 y3 y4 y5))
|0 => fun _ _ _ _ _ _ r h => by simp [manifest_run.l0] at h
|k + 1 => by
  have ih0 := manifest_run.mono_l k
  ·intro y0 y1 y2 y3 y4 y5
   unfold manifest_run.l0
   repeat' (with_reducible first|exact ih0 _ _ _ _ _ _|exact manifest_state_after.mono _ _ _ _ _ _ _ _ _ _|exact LeO.refl _|exact LeO.none _|refine LeO.ite ?_ ?_|refine LeO.bind ?_ (fun _ => ?_))
theorem manifest_run.mono : ∀ a0 k, LeO (manifest_run.f k a0) (manifest_run.f (k + 1) a0) := by
 intro a0 k
 have ih0 := manifest_run.mono_l k
 unfold manifest_run.f
 repeat' (with_reducible first|exact ih0 _ _ _ _ _ _|exact manifest_state_after.mono _ _ _ _ _ _ _ _ _ _|exact LeO.refl _|exact LeO.none _|refine LeO.ite ?_ ?_|refine LeO.bind ?_ (fun _ => ?_))
theorem manifest_run.calls (k : Nat) (A0 : Option Addr) (c0 : Nat) (l0 : List (S30)) (r1 : List Int) (r2 : List Int) (r3 : Int) (w : World) (bV : Kd.C k30 w A0 l0.length l0) (bW : l0.length ≤ c0) (h : manifest_run.f k l0 = some (r1, r2, r3)) :
  Calls Tryz.prog 51 #[.slice A0 l0.length c0] w fun e w' => ∃ bH bI : Value,e = .returned (.agg #[bH,bI,.int .i64 r3]) ∧ Kd.R (Kd.int .i64) 3 w' w.heap.size (fun k_ => some k_ ≠ (bI : Value).ownBlock) bH r1 ∧ Kd.R (Kd.int .i64) 3 w' w.heap.size (fun k_ => some k_ ≠ (bH : Value).ownBlock) bI r2 ∧ Below w.heap.size w w' := by
 have cm := Tryz.underlying46
 have cn := Tryz.underlying30
 have co := aK bV
 have cv := aK bW
 clear bV bW
 have HB := aK (Below.refl w.heap.size w)
 have H : (manifest_run.l0 k l0 (l0.length : Int) 0 ([] : List Int) ([] : List Int) 0) = some (r1,r2,r3) := h
 clear h
 have H' := aK H
 clear H
 go_enter Tryz.func51,Tryz.ntmps51
 go_wp2_with (first|((with_reducible refine gate_dst (N := 2) rfl ?_);refine box_event ?hg (N := 2) ?hd (cs := #[.slice none 0 0,.slice none 0 0,.int .i64 0]) (t := 46) ?hr ?_;(case hd => rfl);(case hg => rfl);(case hr => first|(go_simp;done)|(go_simp;rfl));intro ao hg w2 hbox hb;have ah := aK (hbox);have bq := aK ((by rw [hg];exact (below_size (bM HB.out)) : w.heap.size ≤ ao));have bX := Ge.mk bq.out;have ba := aK ((by rw [hg];exact (below_size (bM HB.out)) : w.heap.size ≤ ao));have bY := Ge.mk ba.out;replace HB := aK (below_step (bM HB.out) hb);clear hb hbox hg)|((with_reducible refine gate_dst (N := 3) rfl ?_);refine box_event ?hg (N := 3) ?hd (cs := #[.slice none 0 0,.slice none 0 0,.int .i64 0]) (t := 46) ?hr ?_;(case hd => rfl);(case hg => rfl);(case hr => first|(go_simp;done)|(go_simp;rfl));intro ap hg w3 hbox hb;have aj := aK (hbox);have br := aK ((by rw [hg];exact (below_size (bG HB.out)) : w.heap.size ≤ ap));have bZ := Ge.mk br.out;have bb := aK ((by rw [hg];exact (below_size (bG HB.out)) : w.heap.size ≤ ap));have b0 := Ge.mk bb.out;replace HB := aK (below_step (bG HB.out) hb);have ag := aK (nbL ah.out hg);have au := aK (nbR ah.out hg);replace ah := aK (blk_below (kM ah.out) hb);clear hb hbox hg;have cp := au.out;have cq := ag.out;obtain ⟨bf,bg,bh,bi,bj,bk⟩ := bk3_ aj.out))
 go_loopg [9] k (fun kq v9 w' => ∃ (aa : Int) (ad : List Int) (ae : List Int) (af : Int) (am : Value) (an : Value),v9 = .int .i64 aa ∧ Aside0 (manifest_run.l0 kq l0 (l0.length : Int) aa ad ae af = some (r1,r2,r3)) ∧ Aside0 (kq ≤ k) ∧ Aside0 (Kd.R (Kd.int .i64) 3 w' w.heap.size (fun k_ => some k_ ≠ (an : Value).ownBlock) am ad) ∧ Aside0 (Kd.R (Kd.int .i64) 3 w' w.heap.size (fun k_ => some k_ ≠ (am : Value).ownBlock) an ae) ∧ Aside0 (w'.heap[ao]? = some (.cells #[(.slice none 0 0),(.slice none 0 0),.int .i64 0] 46 (0,0))) ∧ Aside0 (w'.heap[ap]? = some (.cells #[am,an,.int .i64 af] 46 (0,0))) ∧ Aside0 (Below w.heap.size w w'))
 case atStart => exact ⟨(0),(([] : List Int)),(([] : List Int)),(0),(.slice none 0 0),(.slice none 0 0),(by first|rfl|(simp;done)|(simp [*];done)),H',⟨Nat.le_refl _⟩,⟨by first|exact Kd.R_nil _ _ _ _ _|exact Kd.N_nil _ _ _ _ _|exact Kd.V_nil _ _ _ _ _|exact Kd.Q_nil _ _ _ _ _|exact Kd.S_nil _ _ _ _ _⟩,⟨by first|exact Kd.R_nil _ _ _ _ _|exact Kd.N_nil _ _ _ _ _|exact Kd.V_nil _ _ _ _ _|exact Kd.Q_nil _ _ _ _ _|exact Kd.S_nil _ _ _ _ _⟩,⟨by refine kO ?_;refine blk_far ?_ ag.out _;refine kO ?_;refine blk_far ?_ ag.out _;refine kO ?_;refine blk_far ?_ ag.out _;refine kO ?_;exact ah.out⟩,⟨by refine kO ?_;refine blk_put (cs := #[.slice none 0 0,.slice none 0 0,.int .i64 0]) ?_ 2 _ rfl;refine kO ?_;refine blk_put (cs := #[.slice none 0 0,.slice none 0 0,.int .i64 0]) ?_ 1 _ rfl;refine kO ?_;refine blk_put (cs := #[.slice none 0 0,.slice none 0 0,.int .i64 0]) ?_ 0 _ rfl;refine kO ?_;exact aj.out⟩,⟨bG HB.out⟩⟩
 case round =>
  clear H'
  try clear p2
  try clear bf
  try clear bg
  try clear bh
  try clear bi
  try clear bj
  try clear bk
  obtain ⟨aa,ad,ae,af,am,an,rfl,HA,b1,ab,ac,ah,aj,HB⟩ := hrel
  cases gk with
 |zero => exact absurd HA.out (by simp [manifest_run.l0])
 |succ k1 =>
   have H := HA.out
   clear HA
   simp only [manifest_run.l0] at H
   by_cases c6 : aa < (l0.length : Int)
   ·rw [if_pos c6] at H
    have bJ := decide_eq_true c6
    clear c6
    obtain ⟨c7,H⟩ := iS H
    have cr := decide_eq_true c7
    clear c7
    obtain ⟨c8,H⟩ := iS H
    have ct := decide_eq_true c8
    clear c8
    replace H := Option.bind_eq_some_iff.mp H
    obtain ⟨⟨aA,aB,aR⟩,b2,H⟩ := H
    replace H : (manifest_run.l0 k1 l0 (l0.length : Int) (wrap64 (aa + 1)) aA aB aR) = some (r1,r2,r3) := H
    have A9 := aK b2
    clear b2
    have H' := aK H
    clear H
    have bm : 0 ≤ (aa : Int) := dA
    have bn : aa < (l0.length : Int) := dA
    obtain ⟨b3,aq,ar,av,aw,ax,ay,bK,aC,aD,aE,aF,aG,aH,aI,aJ,aL,aM,aN,aO⟩ := at_T30 co.out aa bm bn
    cases bK
    replace aC := xM HB aC
    replace aD := xM HB aD
    replace aE := xM HB aE
    replace aF := xM HB aF
    replace aG := xM HB aG
    replace aH := xM HB aH
    have aY := aK aJ
    have aZ := aK aI
    clear aJ aI
    have a0 := aK aM
    have a1 := aK aL
    clear aM aL
    have a2 := aK aO
    have a3 := aK aN
    clear aO aN
    replace bm := eq_true bm
    replace bn := eq_true bn
    go_wp2_with (first|((with_reducible refine gate_dst (N := 5) rfl ?_);refine box_event ?hg (N := 5) ?hd (cs := #[.int .i64 0,.int .i64 0,.int .i64 0,.slice none 0 0,.slice none 0 0,.slice none 0 0]) (t := 30) ?hr ?_;(case hd => rfl);(case hg => rfl);(case hr => first|(go_simp;done)|(go_simp;rfl));intro ai hg cu hbox hb;replace ab := aK (Kd.R_below (rM ab.out) hb);replace ac := aK (Kd.R_below (rM ac.out) hb);have az := aK (hbox);have bs := aK ((by rw [hg];exact (below_size (bG HB.out)) : w.heap.size ≤ ai));have b4 := Ge.mk bs.out;have bc := aK ((by rw [hg];exact (below_size (bG HB.out)) : w.heap.size ≤ ai));have b5 := Ge.mk bc.out;replace HB := aK (below_step (bG HB.out) hb);have ak := aK (nbL ah.out hg);have aP := aK (nbR ah.out hg);replace ah := aK (blk_below (kM ah.out) hb);have al := aK (nbL aj.out hg);have aQ := aK (nbR aj.out hg);replace aj := aK (blk_below (kM aj.out) hb);clear hb hbox hg;have b6 := aP.out;have b7 := ak.out;have b8 := aQ.out;have b9 := al.out;obtain ⟨_,_,_,_,_,_,_,_,_,_,_,_⟩ := bk6_ az.out)|((with_reducible refine gate_store (t := 30) (p := 5) rfl ?_);refine store_event (t := 30) (p := 5) (v := ?bL) (w1 := ((((((cu.setCell ⟨ai,0,none⟩ (.int .i64 ((rd_T30 l0 aa).f0))).setCell ⟨ai,1,none⟩ (.int .i64 ((rd_T30 l0 aa).f1))).setCell ⟨ai,2,none⟩ (.int .i64 ((rd_T30 l0 aa).f2))).setCell ⟨ai,3,none⟩ (.slice aq ((rd_T30 l0 aa).f3).length ar)).setCell ⟨ai,4,none⟩ (.slice av ((rd_T30 l0 aa).f4).length aw)).setCell ⟨ai,5,none⟩ (.slice ax ((rd_T30 l0 aa).f5).length ay))) ?hg ?ho ?hn ?hr ?_;(case ho => rfl);(case hg => rfl);(case hn => rfl);(case hr => first|(go_simp;done)|(go_simp;rfl));intro bp hw;have ca : Aside0 (Kd.R (Kd.int .i64) 3 bp w.heap.size (fun k_ => some k_ ≠ (an : Value).ownBlock) am ad) := ⟨(by rw [hw];exact (by (with_reducible repeat (first|apply Kd.R_alloc|apply Kd.R_drewN|apply Kd.R_drew));exact Kd.R_mono (Kd.R_far (p := ⟨ai,5,none⟩) (Kd.R_far (p := ⟨ai,4,none⟩) (Kd.R_far (p := ⟨ai,3,none⟩) (Kd.R_far (p := ⟨ai,2,none⟩) (Kd.R_far (p := ⟨ai,1,none⟩) (Kd.R_far (p := ⟨ai,0,none⟩) (Kd.R_types ab.out az.out (by decide)) (fun _ hk => hk.2) (.int .i64 ((rd_T30 l0 aa).f0))) (fun _ hk => hk.2) (.int .i64 ((rd_T30 l0 aa).f1))) (fun _ hk => hk.2) (.int .i64 ((rd_T30 l0 aa).f2))) (fun _ hk => hk.2) (.slice aq ((rd_T30 l0 aa).f3).length ar)) (fun _ hk => hk.2) (.slice av ((rd_T30 l0 aa).f4).length aw)) (fun _ hk => hk.2) (.slice ax ((rd_T30 l0 aa).f5).length ay)) (fun _ hk => hk.1)))⟩;have cb : Aside0 (Kd.R (Kd.int .i64) 3 bp w.heap.size (fun k_ => some k_ ≠ (am : Value).ownBlock) an ae) := ⟨(by rw [hw];exact (by (with_reducible repeat (first|apply Kd.R_alloc|apply Kd.R_drewN|apply Kd.R_drew));exact Kd.R_mono (Kd.R_far (p := ⟨ai,5,none⟩) (Kd.R_far (p := ⟨ai,4,none⟩) (Kd.R_far (p := ⟨ai,3,none⟩) (Kd.R_far (p := ⟨ai,2,none⟩) (Kd.R_far (p := ⟨ai,1,none⟩) (Kd.R_far (p := ⟨ai,0,none⟩) (Kd.R_types ac.out az.out (by decide)) (fun _ hk => hk.2) (.int .i64 ((rd_T30 l0 aa).f0))) (fun _ hk => hk.2) (.int .i64 ((rd_T30 l0 aa).f1))) (fun _ hk => hk.2) (.int .i64 ((rd_T30 l0 aa).f2))) (fun _ hk => hk.2) (.slice aq ((rd_T30 l0 aa).f3).length ar)) (fun _ hk => hk.2) (.slice av ((rd_T30 l0 aa).f4).length aw)) (fun _ hk => hk.2) (.slice ax ((rd_T30 l0 aa).f5).length ay)) (fun _ hk => hk.1)))⟩;have cc : Aside0 (bp.heap[ao]? = some (.cells #[.slice none 0 0,.slice none 0 0,.int .i64 0] 46 (0,0))) := ⟨(by rw [hw];exact (by refine kO ?_;refine blk_far ?_ ak.out _;refine kO ?_;refine blk_far ?_ ak.out _;refine kO ?_;refine blk_far ?_ ak.out _;refine kO ?_;refine blk_far ?_ ak.out _;refine kO ?_;refine blk_far ?_ ak.out _;refine kO ?_;refine blk_far ?_ ak.out _;refine kO ?_;exact ah.out))⟩;have cd : Aside0 (bp.heap[ap]? = some (.cells #[am,an,.int .i64 af] 46 (0,0))) := ⟨(by rw [hw];exact (by refine kO ?_;refine blk_far ?_ al.out _;refine kO ?_;refine blk_far ?_ al.out _;refine kO ?_;refine blk_far ?_ al.out _;refine kO ?_;refine blk_far ?_ al.out _;refine kO ?_;refine blk_far ?_ al.out _;refine kO ?_;refine blk_far ?_ al.out _;refine kO ?_;exact aj.out))⟩;have ce : Aside0 (bp.heap[ai]? = some (.cells #[.int .i64 ((rd_T30 l0 aa).f0),.int .i64 ((rd_T30 l0 aa).f1),.int .i64 ((rd_T30 l0 aa).f2),.slice aq ((rd_T30 l0 aa).f3).length ar,.slice av ((rd_T30 l0 aa).f4).length aw,.slice ax ((rd_T30 l0 aa).f5).length ay] 30 (0,0))) := ⟨(by rw [hw];exact (by refine kO ?_;refine blk_put (cs := #[.int .i64 ((rd_T30 l0 aa).f0),.int .i64 ((rd_T30 l0 aa).f1),.int .i64 ((rd_T30 l0 aa).f2),.slice aq ((rd_T30 l0 aa).f3).length ar,.slice av ((rd_T30 l0 aa).f4).length aw,.slice none 0 0]) ?_ 5 _ rfl;refine kO ?_;refine blk_put (cs := #[.int .i64 ((rd_T30 l0 aa).f0),.int .i64 ((rd_T30 l0 aa).f1),.int .i64 ((rd_T30 l0 aa).f2),.slice aq ((rd_T30 l0 aa).f3).length ar,.slice none 0 0,.slice none 0 0]) ?_ 4 _ rfl;refine kO ?_;refine blk_put (cs := #[.int .i64 ((rd_T30 l0 aa).f0),.int .i64 ((rd_T30 l0 aa).f1),.int .i64 ((rd_T30 l0 aa).f2),.slice none 0 0,.slice none 0 0,.slice none 0 0]) ?_ 3 _ rfl;refine kO ?_;refine blk_put (cs := #[.int .i64 ((rd_T30 l0 aa).f0),.int .i64 ((rd_T30 l0 aa).f1),.int .i64 0,.slice none 0 0,.slice none 0 0,.slice none 0 0]) ?_ 2 _ rfl;refine kO ?_;refine blk_put (cs := #[.int .i64 ((rd_T30 l0 aa).f0),.int .i64 0,.int .i64 0,.slice none 0 0,.slice none 0 0,.slice none 0 0]) ?_ 1 _ rfl;refine kO ?_;refine blk_put (cs := #[.int .i64 0,.int .i64 0,.int .i64 0,.slice none 0 0,.slice none 0 0,.slice none 0 0]) ?_ 0 _ rfl;refine kO ?_;exact az.out))⟩;have cf : Aside0 (Below w.heap.size w bp) := ⟨(by rw [hw];exact (bG HB.out))⟩;clear hw;clear ab;clear ac;clear ah;clear aj;clear az;clear HB;have ab := ca;have ac := cb;have ah := cc;have aj := cd;have az := ce;have HB := cf;clear ca cb cc cd ce cf;have cg := au.out;have ch := ag.out;obtain ⟨_,_,_,_,_,_⟩ := bk3_ aj.out;obtain ⟨_,_,_,_,_,_,_,_,_,_,_,_⟩ := bk6_ az.out;obtain ⟨a4,a5,bN⟩ := Kd.R_slice ab.out;subst bN;obtain ⟨aS,aT,bO⟩ := Kd.R_slice ac.out;subst bO)|((with_reducible refine gate_callee (f := 25) rfl ?_);refine gL 15 Tryz.func25 #[.agg #[.slice a4 ad.length a5,.slice aS ae.length aT,.int .i64 af],.agg #[.int .i64 ((rd_T30 l0 aa).f0),.int .i64 ((rd_T30 l0 aa).f1),.int .i64 ((rd_T30 l0 aa).f2),.slice aq ((rd_T30 l0 aa).f3).length ar,.slice av ((rd_T30 l0 aa).f4).length aw,.slice ax ((rd_T30 l0 aa).f5).length ay]] ?_;(with_reducible refine (manifest_state_after.calls k1 (fun k_ => some k_ = (.slice a4 ad.length a5 : Value).ownBlock) (.slice a4 ad.length a5) ad (fun k_ => some k_ = (.slice aS ae.length aT : Value).ownBlock) (.slice aS ae.length aT) ae af ((rd_T30 l0 aa).f0) ((rd_T30 l0 aa).f1) ((rd_T30 l0 aa).f2) (fun k_ => k_ < w.heap.size) _ _ ((rd_T30 l0 aa).f3) _ _ ((rd_T30 l0 aa).f4) _ _ ((rd_T30 l0 aa).f5) aA aB aR w _ ?bu ?bv ?bx ?bz ?bB ?bC ?bD ?bE ?bF ?bo A9.out).mono ?_);(case bu => repeat (first|(with_reducible first|exact HB.out|apply below_alloc|apply pw_below_drewN|apply below_drew1|refine below_set ?_ ba.out|refine below_set ?_ bb.out|refine below_set ?_ bc.out)|exact HB.out));(case bv => exact Kd.R_tight rfl ab.out);(case bx => exact fun k_ e_ => (ab.out.1 k_ e_.symm));(case bz => exact Kd.R_tight rfl ac.out);(case bB => exact fun k_ e_ => (ac.out.1 k_ e_.symm));(case bC => exact Kd.V_mono (Kd.V_mk aZ.out (Kd.F_below (Kd.C_F (Kd.heap_int .i64) aY.out) (bG HB.out))) (fun k_ hk_ => ⟨hk_,fun e_ => Nat.not_le.2 hk_ (Kd.R_base ab.out k_ e_.symm),fun e_ => Nat.not_le.2 hk_ (Kd.R_base ac.out k_ e_.symm)⟩));(case bD => exact Kd.C_kept_came (Kd.heap_int .i64) a0.out (bG HB.out) (fun k_ hs_ => Or.elim hs_ (fun e_ => (fun e_ => Kd.R_base ab.out k_ e_.symm) e_) (fun e_ => (fun e_ => Kd.R_base ac.out k_ e_.symm) e_)));(case bE => exact a1.out);(case bF => exact Kd.C_kept_came Kd.heap_string a2.out (bG HB.out) (fun k_ hs_ => Or.elim hs_ (fun e_ => (fun e_ => Kd.R_base ab.out k_ e_.symm) e_) (fun e_ => (fun e_ => Kd.R_base ac.out k_ e_.symm) e_)));(case bo => exact a3.out);rintro e cw ⟨bP,bQ,rfl,ci,cj,hb,hkp⟩;refine ⟨_,rfl,?_⟩;replace ah := aK (blk_kept (kM ah.out) hkp (fun hs_ => Or.elim hs_ (fun e_ => (fun e_ => (Kd.R_ne ab.out ah.out (by decide)) e_) e_) (fun e_ => (fun e_ => (Kd.R_ne ac.out ah.out (by decide)) e_) e_)));replace aj := aK (blk_kept (kM aj.out) hkp (fun hs_ => Or.elim hs_ (fun e_ => (fun e_ => (Kd.R_ne ab.out aj.out (by decide)) e_) e_) (fun e_ => (fun e_ => (Kd.R_ne ac.out aj.out (by decide)) e_) e_)));have bd := aK (Kd.R_mono (ok' := fun k_ => some k_ ≠ (bQ : Value).ownBlock) ci (fun k_ hk_ => hk_.2));have be := aK (Kd.R_mono (ok' := fun k_ => some k_ ≠ (bP : Value).ownBlock) cj (fun k_ hk_ => hk_.2));replace HB := aK (hb);(try clear hb);(try clear hkp);(try clear ci);(try clear cj);obtain ⟨aU,aV,bR⟩ := Kd.R_slice bd.out;subst bR;obtain ⟨_,_,_,_,_,_⟩ := bk3_ aj.out;obtain ⟨a6,a7,bS⟩ := Kd.R_slice be.out;subst bS))
    go_roundg k1
    case measure => have := b1.out;omega
    case rel => exact ⟨(wrap64 (aa + 1)),(aA),(aB),(aR),(.slice aU aA.length aV),(.slice a6 aB.length a7),(by first|rfl|(simp;done)|(simp [*];done)),H',⟨by have := b1.out;omega⟩,⟨by (with_reducible repeat (first|apply Kd.R_alloc|apply Kd.R_drewN|apply Kd.R_drew));exact Kd.R_mono (Kd.R_far (p := ⟨ap,2,none⟩) (Kd.R_far (p := ⟨ap,1,none⟩) (Kd.R_far (p := ⟨ap,0,none⟩) (Kd.R_types bd.out aj.out (by decide)) (fun _ hk => hk.2) (.slice aU aA.length aV)) (fun _ hk => hk.2) (.slice a6 aB.length a7)) (fun _ hk => hk.2) (.int .i64 aR)) (fun _ hk => hk.1)⟩,⟨by (with_reducible repeat (first|apply Kd.R_alloc|apply Kd.R_drewN|apply Kd.R_drew));exact Kd.R_mono (Kd.R_far (p := ⟨ap,2,none⟩) (Kd.R_far (p := ⟨ap,1,none⟩) (Kd.R_far (p := ⟨ap,0,none⟩) (Kd.R_types be.out aj.out (by decide)) (fun _ hk => hk.2) (.slice aU aA.length aV)) (fun _ hk => hk.2) (.slice a6 aB.length a7)) (fun _ hk => hk.2) (.int .i64 aR)) (fun _ hk => hk.1)⟩,⟨by refine kO ?_;refine blk_far ?_ ag.out _;refine kO ?_;refine blk_far ?_ ag.out _;refine kO ?_;refine blk_far ?_ ag.out _;refine kO ?_;exact ah.out⟩,⟨by refine kO ?_;refine blk_put (cs := #[.slice aU aA.length aV,.slice a6 aB.length a7,.int .i64 af]) ?_ 2 _ rfl;refine kO ?_;refine blk_put (cs := #[.slice aU aA.length aV,.slice aS ae.length aT,.int .i64 af]) ?_ 1 _ rfl;refine kO ?_;refine blk_put (cs := #[.slice a4 ad.length a5,.slice aS ae.length aT,.int .i64 af]) ?_ 0 _ rfl;refine kO ?_;exact aj.out⟩,⟨bG HB.out⟩⟩
   ·rw [if_neg c6] at H
    have bJ := decide_eq_false c6
    clear c6
    simp only [Option.some.injEq,Prod.mk.injEq] at H
    obtain ⟨rfl,rfl,rfl⟩ := H
    have ck := au.out
    have cl := ag.out
    obtain ⟨_,_,_,_,_,_⟩ := bk3_ aj.out
    obtain ⟨aW,aX,bT⟩ := Kd.R_slice ab.out
    subst bT
    obtain ⟨_,_,_,_,_,_⟩ := bk3_ ah.out
    obtain ⟨a8,a9,bU⟩ := Kd.R_slice ac.out
    subst bU
    go_wp2
    refine bodyPost_ret (results_cell_row rfl _ _ ao 46 #[.slice aW ad.length aX,.slice a8 ae.length a9,.int .i64 af] (0,0) _ rfl (by refine kO ?_;refine blk_put (cs := #[.slice aW ad.length aX,.slice a8 ae.length a9,.int .i64 0]) ?_ 2 _ rfl;refine kO ?_;refine blk_put (cs := #[.slice aW ad.length aX,.slice none 0 0,.int .i64 0]) ?_ 1 _ rfl;refine kO ?_;refine blk_put (cs := #[.slice none 0 0,.slice none 0 0,.int .i64 0]) ?_ 0 _ rfl;refine kO ?_;exact ah.out) Tryz.underlying46 rfl (by kernel_rfl)) rfl ?_
    exact ⟨_,_,by first|rfl|(simp [errW_none,errW_some] <;> rfl)|(simp [*,errW_none,errW_some] <;> rfl),by (with_reducible repeat (first|apply Kd.R_alloc|apply Kd.R_drewN|apply Kd.R_drew));exact Kd.R_mono (Kd.R_far (p := ⟨ao,2,none⟩) (Kd.R_far (p := ⟨ao,1,none⟩) (Kd.R_far (p := ⟨ao,0,none⟩) (Kd.R_types ab.out ah.out (by decide)) (fun _ hk => hk.2) (.slice aW ad.length aX)) (fun _ hk => hk.2) (.slice a8 ae.length a9)) (fun _ hk => hk.2) (.int .i64 af)) (fun _ hk => hk.1),by (with_reducible repeat (first|apply Kd.R_alloc|apply Kd.R_drewN|apply Kd.R_drew));exact Kd.R_mono (Kd.R_far (p := ⟨ao,2,none⟩) (Kd.R_far (p := ⟨ao,1,none⟩) (Kd.R_far (p := ⟨ao,0,none⟩) (Kd.R_types ac.out ah.out (by decide)) (fun _ hk => hk.2) (.slice aW ad.length aX)) (fun _ hk => hk.2) (.slice a8 ae.length a9)) (fun _ hk => hk.2) (.int .i64 af)) (fun _ hk => hk.1),bG HB.out⟩
def manifest_Live.f (k : Nat) (l0 : List (S30)) : Option (List Int) := (manifest_run.f k l0).bind fun aa => (some aa.1)
theorem manifest_Live.mono : ∀ a0 k, LeO (manifest_Live.f k a0) (manifest_Live.f (k + 1) a0) := by
 intro a0 k
 unfold manifest_Live.f
 repeat' (with_reducible first|exact manifest_run.mono _ _|exact LeO.refl _|exact LeO.none _|refine LeO.ite ?_ ?_|refine LeO.bind ?_ (fun _ => ?_))
theorem manifest_Live.calls (k : Nat) (A0 : Option Addr) (c0 : Nat) (l0 : List (S30)) (r : List Int) (w : World) (ai : Kd.C k30 w A0 l0.length l0) (aj : l0.length ≤ c0) (h : manifest_Live.f k l0 = some r) :
  Calls Tryz.prog 22 #[.slice A0 l0.length c0] w fun e w' => ∃ ak : Value,e = .returned (ak) ∧ Kd.R (Kd.int .i64) 3 w' w.heap.size (fun _ => True) ak r ∧ Below w.heap.size w w' := by
 have aa := fun (al ao ap : Value) (w_ : World) => (show (Instr.field 46 (.agg #[al,ao,ap]) 0).run Tryz.prog w_ = .ok al w_ by simp [Instr.field,run_underlying Tryz.underlying46,part,isAgg,run_underlying Tryz.underlying27,asAgg,Result.andThen])
 have aq := aK ai
 have ar := aK aj
 clear ai aj
 have HB := aK (Below.refl w.heap.size w)
 have H : ((manifest_run.f k l0).bind fun ab => (some ab.1)) = some r := h
 clear h
 replace H := Option.bind_eq_some_iff.mp H
 obtain ⟨⟨ac,ag,ah⟩,am,H⟩ := H
 replace H : (some ac) = some r := H
 have A2 := aK am
 clear am
 obtain rfl := Option.some.inj H
 go_enter Tryz.func22,Tryz.ntmps22
 go_wp2_with (first|((with_reducible refine gate_callee (f := 51) rfl ?_);refine gL 4 Tryz.func51 #[.slice A0 l0.length c0] ?_;(with_reducible refine (manifest_run.calls k _ _ l0 ac ag ah _ ?ad ?ae A2.out).mono ?_);(case ad => exact cM aq.out);(case ae => exact ar.out);rintro e w3 ⟨au,av,rfl,an,aw,hb⟩;refine ⟨_,rfl,?_⟩;have af := aK (Kd.R_lower an (below_size (bM HB.out)));replace HB := aK (below_step (bM HB.out) hb);(try clear hb);(try clear hk);(try clear an);(try clear aw)))
 go_ret
 exact ⟨_,by first|rfl|(simp [errW_none,errW_some] <;> rfl)|(simp [*,errW_none,errW_some] <;> rfl),rM (Kd.R_mono af.out (fun _ hk => trivial)),bM HB.out⟩
def manifest_Dead.f (k : Nat) (l0 : List (S30)) : Option (List Int) := (manifest_run.f k l0).bind fun aa => (some aa.2.1)
theorem manifest_Dead.mono : ∀ a0 k, LeO (manifest_Dead.f k a0) (manifest_Dead.f (k + 1) a0) := by
 intro a0 k
 unfold manifest_Dead.f
 repeat' (with_reducible first|exact manifest_run.mono _ _|exact LeO.refl _|exact LeO.none _|refine LeO.ite ?_ ?_|refine LeO.bind ?_ (fun _ => ?_))
theorem manifest_Dead.calls (k : Nat) (A0 : Option Addr) (c0 : Nat) (l0 : List (S30)) (r : List Int) (w : World) (ai : Kd.C k30 w A0 l0.length l0) (aj : l0.length ≤ c0) (h : manifest_Dead.f k l0 = some r) :
  Calls Tryz.prog 23 #[.slice A0 l0.length c0] w fun e w' => ∃ ak : Value,e = .returned (ak) ∧ Kd.R (Kd.int .i64) 3 w' w.heap.size (fun _ => True) ak r ∧ Below w.heap.size w w' := by
 have aa := fun (ao al ap : Value) (w_ : World) => (show (Instr.field 46 (.agg #[ao,al,ap]) 1).run Tryz.prog w_ = .ok al w_ by simp [Instr.field,run_underlying Tryz.underlying46,part,isAgg,run_underlying Tryz.underlying27,asAgg,Result.andThen])
 have aq := aK ai
 have ar := aK aj
 clear ai aj
 have HB := aK (Below.refl w.heap.size w)
 have H : ((manifest_run.f k l0).bind fun ab => (some ab.2.1)) = some r := h
 clear h
 replace H := Option.bind_eq_some_iff.mp H
 obtain ⟨⟨ag,ac,ah⟩,am,H⟩ := H
 replace H : (some ac) = some r := H
 have A2 := aK am
 clear am
 obtain rfl := Option.some.inj H
 go_enter Tryz.func23,Tryz.ntmps23
 go_wp2_with (first|((with_reducible refine gate_callee (f := 51) rfl ?_);refine gL 4 Tryz.func51 #[.slice A0 l0.length c0] ?_;(with_reducible refine (manifest_run.calls k _ _ l0 ag ac ah _ ?ad ?ae A2.out).mono ?_);(case ad => exact cM aq.out);(case ae => exact ar.out);rintro e w3 ⟨au,av,rfl,aw,an,hb⟩;refine ⟨_,rfl,?_⟩;have af := aK (Kd.R_lower an (below_size (bM HB.out)));replace HB := aK (below_step (bM HB.out) hb);(try clear hb);(try clear hk);(try clear aw);(try clear an)))
 go_ret
 exact ⟨_,by first|rfl|(simp [errW_none,errW_some] <;> rfl)|(simp [*,errW_none,errW_some] <;> rfl),rM (Kd.R_mono af.out (fun _ hk => trivial)),bM HB.out⟩
end Go.Proofs.YtmgliocboeifdaaGreatDoor.F
