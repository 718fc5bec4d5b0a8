import Derived.Test.YtobdkgoapcbipaaGreatDoorJx0
import Derived.Test.YtobdkgoapcbipaaGreatDoorJx1
import Derived.Test.YtobdkgoapcbipaaGreatDoorJx12
namespace Go.Proofs.YtobdkgoapcbipaaGreatDoor.J
open Go.RowKit Go.Proofs.YtobdkgoapcbipaaGreatDoorW.PrintWords Go.Proofs.YtobdkgoapcbipaaGreatDoorW.PrintLast Go.Proofs.YtobdkgoapcbipaaGreatDoorW.PrintMore
attribute [local go_sem] max2_int min2_int max_two min_two max_three min_three max_four min_four
set_option linter.unusedVariables false
set_option linter.unusedSimpArgs false

/-! ### r43_members: function 37 -/
mutual
def r43_members.j0 : Nat → List (S36) → Bool → ByteArray → List Int → List ByteArray → Option (Int)
|0,_,_,_,_,_ => none
|k + 1,x0,ad,aa,ab,ac => if ad = true then (some 4) else (r43_members.l0 k x0 0 aa ab ac)
def r43_members.l0 : Nat → List (S36) → Int → ByteArray → List Int → List ByteArray → Option (Int)
|0,_,_,_,_,_ => none
|k + 1,x0,x5,ab,aa,ac => if x5 < (aa.length : Int) then (if 0 ≤ x5 then (if (rd aa x5) < 1 then (some 2) else (if (rd aa x5) > 9999 then (some 2) else (r43_members.l0 k x0 (wrap64 (x5 + 1)) ab aa ac))) else (none)) else (r43_members.l1 k x0 0 ab aa ac)
def r43_members.l1 : Nat → List (S36) → Int → ByteArray → List Int → List ByteArray → Option (Int)
|0,_,_,_,_,_ => none
|k + 1,x0,x6,ab,aa,ac => if x6 < (aa.length : Int) then (if 0 ≤ x6 then (if x6 ≤ (aa.length : Int) then ((r05_In.f k (aa.take (x6 : Int).toNat) (rd aa x6)).bind fun ad => (if ad = true then (some 7) else (r43_members.l1 k x0 (wrap64 (x6 + 1)) ab aa ac))) else (none)) else (none)) else (r43_members.l2 k x0 0 ab aa ac)
def r43_members.l2 : Nat → List (S36) → Int → ByteArray → List Int → List ByteArray → Option (Int)
|0,_,_,_,_,_ => none
|k + 1,x0,x7,ab,ac,aa => if x7 < (aa.length : Int) then (if 0 ≤ x7 then (if x7 ≤ (aa.length : Int) then ((r43_inText.f k (aa.take (x7 : Int).toNat) (rdOf ByteArray.empty aa x7)).bind fun ad => (if ad = true then (some 7) else (r43_members.l2 k x0 (wrap64 (x7 + 1)) ab ac aa))) else (none)) else (none)) else (r43_members.l3 k x0 0 ab ac aa)
def r43_members.l3 : Nat → List (S36) → Int → ByteArray → List Int → List ByteArray → Option (Int)
|0,_,_,_,_,_ => none
|k + 1,x0,x8,ab,ac,aa => if x8 < (aa.length : Int) then (if 0 ≤ x8 then ((r43_at.f k x0 (rdOf ByteArray.empty aa x8)).bind fun ad => (if ad < 0 then (some 8) else (r43_members.l3 k x0 (wrap64 (x8 + 1)) ab ac aa))) else (none)) else (some 0)
end
def r43_members.f (k : Nat) (l0 : List (S36)) (ac : ByteArray) (aa : List Int) (ab : List ByteArray) : Option (Int) := if (aa.length : Int) > 16 then (r43_members.j0 k l0 true ac aa ab) else (if (ab.length : Int) > 16 then (r43_members.j0 k l0 true ac aa ab) else (r43_members.j0 k l0 (decide ((wrap64 ((aa.length : Int) + (ab.length : Int))) > 16)) ac aa ab))
theorem r43_members.mono_l : ∀ k, (∀ y0 y1 y2 y3 y4, LeO (r43_members.j0 k y0 y1 y2 y3 y4) (r43_members.j0 (k + 1) y0 y1 y2 y3 y4)) ∧ (∀ y0 y1 y2 y3 y4, LeO (r43_members.l0 k y0 y1 y2 y3 y4) (r43_members.l0 (k + 1) y0 y1 y2 y3 y4)) ∧ (∀ y0 y1 y2 y3 y4, LeO (r43_members.l1 k y0 y1 y2 y3 y4) (r43_members.l1 (k + 1) y0 y1 y2 y3 y4)) ∧ (∀ y0 y1 y2 y3 y4, LeO (r43_members.l2 k y0 y1 y2 y3 y4) (r43_members.l2 (k + 1) y0 y1 y2 y3 y4)) ∧ (∀ y0 y1 y2 y3 y4, LeO (r43_members.l3 k y0 y1 y2 y3 y4) (r43_members.l3 (k + 1) y0 y1 y2 y3 y4))
|0 => ⟨fun _ _ _ _ _ r h => by simp [r43_members.j0] at h,fun _ _ _ _ _ r h => by simp [r43_members.l0] at h,fun _ _ _ _ _ r h => by simp [r43_members.l1] at h,fun _ _ _ _ _ r h => by simp [r43_members.l2] at h,fun _ _ _ _ _ r h => by simp [r43_members.l3] at h⟩
|k + 1 => by
  obtain ⟨ih0,ih1,ih2,ih3,ih4⟩ := r43_members.mono_l k
  refine ⟨?_,?_,?_,?_,?_⟩
  ·intro y0 y1 y2 y3 y4
   unfold r43_members.j0
   repeat' (with_reducible first|exact ih1 _ _ _ _ _|exact LeO.refl _|exact LeO.none _|refine LeO.ite ?_ ?_|refine LeO.bind ?_ (fun _ => ?_))
  ·intro y0 y1 y2 y3 y4
   unfold r43_members.l0
   repeat' (with_reducible first|exact ih1 _ _ _ _ _|exact ih2 _ _ _ _ _|exact LeO.refl _|exact LeO.none _|refine LeO.ite ?_ ?_|refine LeO.bind ?_ (fun _ => ?_))
  ·intro y0 y1 y2 y3 y4
   unfold r43_members.l1
   repeat' (with_reducible first|exact ih2 _ _ _ _ _|exact ih3 _ _ _ _ _|exact r05_In.mono _ _ _|exact LeO.refl _|exact LeO.none _|refine LeO.ite ?_ ?_|refine LeO.bind ?_ (fun _ => ?_))
  ·intro y0 y1 y2 y3 y4
   unfold r43_members.l2
   repeat' (with_reducible first|exact ih3 _ _ _ _ _|exact ih4 _ _ _ _ _|exact r43_inText.mono _ _ _|exact LeO.refl _|exact LeO.none _|refine LeO.ite ?_ ?_|refine LeO.bind ?_ (fun _ => ?_))
  ·intro y0 y1 y2 y3 y4
   unfold r43_members.l3
   repeat' (with_reducible first|exact ih4 _ _ _ _ _|exact r43_at.mono _ _ _|exact LeO.refl _|exact LeO.none _|refine LeO.ite ?_ ?_|refine LeO.bind ?_ (fun _ => ?_))
theorem r43_members.mono : ∀ a0 a1 a2 a3 k, LeO (r43_members.f k a0 a1 a2 a3) (r43_members.f (k + 1) a0 a1 a2 a3) := by
 intro a0 a1 a2 a3 k
 obtain ⟨ih0,ih1,ih2,ih3,ih4⟩ := r43_members.mono_l k
 unfold r43_members.f
 repeat' (with_reducible first|exact ih0 _ _ _ _ _|exact ih1 _ _ _ _ _|exact ih2 _ _ _ _ _|exact ih3 _ _ _ _ _|exact ih4 _ _ _ _ _|exact r05_In.mono _ _ _|exact r43_at.mono _ _ _|exact r43_inText.mono _ _ _|exact LeO.refl _|exact LeO.none _|refine LeO.ite ?_ ?_|refine LeO.bind ?_ (fun _ => ?_))
set_option maxHeartbeats 4000000 in
set_option maxRecDepth 100000 in
theorem r43_members.calls (k : Nat) (A0 : Option Addr) (c0 : Nat) (l0 : List (S36)) (aq : ByteArray) (ax : Option Addr) (am : Nat) (ab : List Int) (ay : Option Addr) (an : Nat) (aa : List ByteArray) (r : Int) (w : World) (cx : Kd.C k36 w A0 l0.length l0) (cy : l0.length ≤ c0) (bf : Kd.C (Kd.int .i64) w ax ab.length ab) (bg : ab.length ≤ am) (bh : Kd.C Kd.string w ay aa.length aa) (bi : aa.length ≤ an) (h : r43_members.f k l0 aq ab aa = some r) :
  Calls Tryz.prog 37 #[.slice A0 l0.length c0,.agg #[.string aq,.slice ax ab.length am,.slice ay aa.length an]] w fun e w' => e = .returned (.int .i64 r) ∧ Below w.heap.size w w' := by
 have cN := Tryz.underlying36
 have bP := aK cx
 have bQ := aK cy
 clear cx cy
 have ar := aK bf
 have bj := aK bg
 clear bf bg
 have aH := aK bh
 have bk := aK bi
 clear bh bi
 have HB := aK (Below.refl w.heap.size w)
 unfold r43_members.f at h
 have H := h
 clear h
 have cj := aK H
 clear H
 go_enter Tryz.func37,Tryz.ntmps37
 go_upto_region 1 with (first|((with_reducible refine gate_dst (N := 3) rfl ?_);(try (refine gate_guard (by rfl) ?_;dsimp only));refine box_event ?hg (N := 3) ?hd (cs := #[.string aq,.slice ax ab.length am,.slice ay aa.length an]) (t := 36) ?hr ?_;(case hd => rfl);(case hg => rfl);(case hr => first|(go_simp;done)|(go_simp;rfl));intro ak hg w4 hbox hb;have ag := aK (hbox);have aL := aK ((by rw [hg];exact (below_size (bM HB.out)) : w.heap.size ≤ ak));have bm := Ge.mk aL.out;have aM := aK ((by rw [hg];exact (below_size (bM HB.out)) : w.heap.size ≤ ak));have bn := Ge.mk aM.out;replace HB := aK (below_step (bM HB.out) hb);clear hb hbox hg))
 repeat (go_quiet (first|((with_reducible refine gate_dst (N := 3) rfl ?_);(try (refine gate_guard (by rfl) ?_;dsimp only));refine box_event ?hg (N := 3) ?hd (cs := #[.string aq,.slice ax ab.length am,.slice ay aa.length an]) (t := 36) ?hr ?_;(case hd => rfl);(case hg => rfl);(case hr => first|(go_simp;done)|(go_simp;rfl));intro ak hg w4 hbox hb;have ag := aK (hbox);have aL := aK ((by rw [hg];exact (below_size (bM HB.out)) : w.heap.size ≤ ak));have bm := Ge.mk aL.out;have aM := aK ((by rw [hg];exact (below_size (bM HB.out)) : w.heap.size ≤ ak));have bn := Ge.mk aM.out;replace HB := aK (below_step (bM HB.out) hb);clear hb hbox hg));go_upto_region 1 with (first|((with_reducible refine gate_dst (N := 3) rfl ?_);(try (refine gate_guard (by rfl) ?_;dsimp only));refine box_event ?hg (N := 3) ?hd (cs := #[.string aq,.slice ax ab.length am,.slice ay aa.length an]) (t := 36) ?hr ?_;(case hd => rfl);(case hg => rfl);(case hr => first|(go_simp;done)|(go_simp;rfl));intro ak hg w4 hbox hb;have ag := aK (hbox);have aL := aK ((by rw [hg];exact (below_size (bM HB.out)) : w.heap.size ≤ ak));have bm := Ge.mk aL.out;have aM := aK ((by rw [hg];exact (below_size (bM HB.out)) : w.heap.size ≤ ak));have bn := Ge.mk aM.out;replace HB := aK (below_step (bM HB.out) hb);clear hb hbox hg)))
 (try simp only [Act.put,z1_,z2_,z3_])
 go_cut [28] (fun cO wc => ∃ (kq : Nat) (aS : Bool),cO = .bool aS ∧ Aside0 (r43_members.j0 kq l0 aS aq ab aa = some r) ∧ Aside0 (kq ≤ k) ∧ Aside0 (wc.heap[ak]? = some (.cells #[.string aq,(.slice ax ab.length am),(.slice ay aa.length an)] 36 (0,0))) ∧ Aside0 (Below w.heap.size w wc))
 case first =>
  have H := cj.out
  clear cj
  by_cases c5 : (ab.length : Int) > 16
  ·rw [if_pos c5] at H
   have aU := decide_eq_true c5
   have bF : decide (16 < ab.length) = true := decide_eq_true (by omega)
   clear c5
   (first|rw [aU]|(simp only [i64_w,i32_w];rw [aU])|rw [bF]|skip)
   have H' := aK H
   clear H
   obtain ⟨_,_,_,_,_,_⟩ := bk3_ ag.out
   go_wp2
   repeat (go_quiet (fail);try go_wp2)
   go_meet
   case rel => exact ⟨_,(true),(by first|rfl|(simp;done)|(simp [*];done)),H',⟨by first|omega|exact Nat.le_refl _⟩,⟨kM ag.out⟩,⟨bG HB.out⟩⟩
  ·rw [if_neg c5] at H
   have aU := decide_eq_false c5
   have bF : decide (16 < ab.length) = false := decide_eq_false (by omega)
   clear c5
   (first|rw [aU]|(simp only [i64_w,i32_w];rw [aU])|rw [bF]|skip)
   by_cases c7 : (aa.length : Int) > 16
   ·rw [if_pos c7] at H
    have ck := decide_eq_true c7
    have cl : decide (16 < aa.length) = true := decide_eq_true (by omega)
    clear c7
    have H' := aK H
    clear H
    obtain ⟨_,_,_,_,_,_⟩ := bk3_ ag.out
    go_wp2
    repeat (go_quiet (fail);try go_wp2)
    go_meet
    case rel => exact ⟨_,(true),(by first|rfl|(simp;done)|(simp [*];done)),H',⟨by first|omega|exact Nat.le_refl _⟩,⟨kM ag.out⟩,⟨bG HB.out⟩⟩
   ·rw [if_neg c7] at H
    have ck := decide_eq_false c7
    have cl : decide (16 < aa.length) = false := decide_eq_false (by omega)
    clear c7
    have H' := aK H
    clear H
    obtain ⟨_,_,_,_,_,_⟩ := bk3_ ag.out
    go_wp2
    repeat (go_quiet (fail);try go_wp2)
    go_meet
    case rel => exact ⟨_,(decide ((wrap64 ((ab.length : Int) + (aa.length : Int))) > 16)),(by first|rfl|(simp;done)|(simp [*];done)),H',⟨by first|omega|exact Nat.le_refl _⟩,⟨kM ag.out⟩,⟨bG HB.out⟩⟩
 case rest =>
  clear cj
  try clear p2
  try clear p6
  obtain ⟨kq,aS,rfl,HA,bo,ag,HB⟩ := hcut
  cases kq with
 |zero => exact absurd HA.out (by simp [r43_members.j0])
 |succ kj2 =>
   have H := HA.out
   clear HA
   simp only [r43_members.j0] at H
   by_cases c10 : aS = true
   ·subst c10
    rw [if_pos rfl] at H
    obtain rfl := Option.some.inj H
    go_wp2
    repeat (go_quiet (fail);try go_wp2)
    go_ret
    exact ⟨by first|rfl|(simp [errW_none,errW_some] <;> rfl)|(simp [*,errW_none,errW_some] <;> rfl),bG HB.out⟩
   ·replace c10 := Bool.eq_false_iff.mpr c10
    subst c10
    rw [if_neg (show ¬ (false = true) by decide)] at H
    have H' := aK H
    clear H
    go_wp2
    repeat (go_quiet (fail);try go_wp2)
    go_loopg [5] kj2 (fun kq v5 w' => ∃ (ai : Int),v5 = .int .i64 ai ∧ Aside0 (r43_members.l0 kq l0 ai aq ab aa = some r) ∧ Aside0 (kq ≤ kj2) ∧ Aside0 (w'.heap[ak]? = some (.cells #[.string aq,(.slice ax ab.length am),(.slice ay aa.length an)] 36 (0,0))) ∧ Aside0 (Below w.heap.size w w'))
    case atStart => exact ⟨(0),(by first|rfl|(simp;done)|(simp [*];done)),H',⟨Nat.le_refl _⟩,⟨kM ag.out⟩,⟨bG HB.out⟩⟩
    case round =>
     clear H'
     try clear p2
     try clear p6
     try clear c10
     try clear p2
     try clear p6
     obtain ⟨ai,rfl,HA,bp,ag,HB⟩ := hrel
     cases gk with
    |zero => exact absurd HA.out (by simp [r43_members.l0])
    |succ k2 =>
      have H := HA.out
      clear HA
      simp only [r43_members.l0] at H
      by_cases bH : ai < (ab.length : Int)
      ·rw [if_pos bH] at H
       have bq := decide_eq_true bH
       clear bH
       obtain ⟨cz,H⟩ := iS H
       have cA := decide_eq_true cz
       clear cz
       by_cases bR : (rd ab ai) < 1
       ·rw [if_pos bR] at H
        have bZ := decide_eq_true bR
        clear bR
        obtain rfl := Option.some.inj H
        obtain ⟨_,_,_,_,_,_⟩ := bk3_ ag.out
        have au : 0 ≤ (ai : Int) := dA
        have av : ai < (ab.length : Int) := dA
        obtain ⟨aT,aV,ah⟩ := Kd.at_int ar.out ai au av
        cases aV
        replace ah := xM HB ah
        replace au := eq_true au
        replace av := eq_true av
        go_wp2
        repeat (go_quiet (fail);try go_wp2)
        go_ret
        exact ⟨by first|rfl|(simp [errW_none,errW_some] <;> rfl)|(simp [*,errW_none,errW_some] <;> rfl),bG HB.out⟩
       ·rw [if_neg bR] at H
        have bZ := decide_eq_false bR
        clear bR
        by_cases bS : (rd ab ai) > 9999
        ·rw [if_pos bS] at H
         have b1 := decide_eq_true bS
         clear bS
         obtain rfl := Option.some.inj H
         obtain ⟨_,_,_,_,_,_⟩ := bk3_ ag.out
         have au : 0 ≤ (ai : Int) := dA
         have av : ai < (ab.length : Int) := dA
         obtain ⟨aT,aV,ah⟩ := Kd.at_int ar.out ai au av
         cases aV
         replace ah := xM HB ah
         replace au := eq_true au
         replace av := eq_true av
         have aF : 0 ≤ (ai : Int) := dA
         have aG : ai < (ab.length : Int) := dA
         obtain ⟨aW,bI,aj⟩ := Kd.at_int ar.out ai aF aG
         obtain rfl : aT = aW := (by injection bI)
         replace aj := xM HB aj
         replace aF := eq_true aF
         replace aG := eq_true aG
         go_wp2
         repeat (go_quiet (fail);try go_wp2)
         go_ret
         exact ⟨by first|rfl|(simp [errW_none,errW_some] <;> rfl)|(simp [*,errW_none,errW_some] <;> rfl),bG HB.out⟩
        ·rw [if_neg bS] at H
         have b1 := decide_eq_false bS
         clear bS
         have H' := aK H
         clear H
         obtain ⟨_,_,_,_,_,_⟩ := bk3_ ag.out
         have au : 0 ≤ (ai : Int) := dA
         have av : ai < (ab.length : Int) := dA
         obtain ⟨aT,aV,ah⟩ := Kd.at_int ar.out ai au av
         cases aV
         replace ah := xM HB ah
         replace au := eq_true au
         replace av := eq_true av
         have aF : 0 ≤ (ai : Int) := dA
         have aG : ai < (ab.length : Int) := dA
         obtain ⟨aW,bI,aj⟩ := Kd.at_int ar.out ai aF aG
         obtain rfl : aT = aW := (by injection bI)
         replace aj := xM HB aj
         replace aF := eq_true aF
         replace aG := eq_true aG
         go_wp2
         repeat (go_quiet (fail);try go_wp2)
         go_roundg k2
         case measure => have := bo.out;have := bp.out;omega
         case rel => exact ⟨(wrap64 (ai + 1)),(by first|rfl|(simp;done)|(simp [*];done)),H',⟨by have := bo.out;have := bp.out;omega⟩,⟨kM ag.out⟩,⟨bG HB.out⟩⟩
      ·rw [if_neg bH] at H
       have bq := decide_eq_false bH
       clear bH
       have H' := aK H
       clear H
       obtain ⟨aX,aY,aZ,a0,a1,a2⟩ := bk3_ ag.out
       go_wp2
       repeat (go_quiet (fail);try go_wp2)
       go_loopg [6] k2 (fun kq v6 w' => ∃ (ac : Int),v6 = .int .i64 ac ∧ Aside0 (r43_members.l1 kq l0 ac aq ab aa = some r) ∧ Aside0 (kq ≤ k2) ∧ Aside0 (w'.heap[ak]? = some (.cells #[.string aq,(.slice ax ab.length am),(.slice ay aa.length an)] 36 (0,0))) ∧ Aside0 (Below w.heap.size w w'))
       case atStart => exact ⟨(0),(by first|rfl|(simp;done)|(simp [*];done)),H',⟨Nat.le_refl _⟩,⟨kM ag.out⟩,⟨bG HB.out⟩⟩
       case round =>
        clear H'
        try clear p2
        try clear p3
        try clear q3
        try clear hx3
        try clear p6
        try clear bH
        try clear bq
        try clear aX
        try clear aY
        try clear aZ
        try clear a0
        try clear a1
        try clear a2
        try clear ah
        try clear aj
        try clear p2
        try clear au
        try clear aF
        try clear p6
        try clear av
        try clear aG
        obtain ⟨ac,rfl,HA,bT,ag,HB⟩ := hrel
        cases gk with
       |zero => exact absurd HA.out (by simp [r43_members.l1])
       |succ k3 =>
         have H := HA.out
         clear HA
         simp only [r43_members.l1] at H
         by_cases bJ : ac < (ab.length : Int)
         ·rw [if_pos bJ] at H
          have br := decide_eq_true bJ
          clear bJ
          obtain ⟨cm,H⟩ := iS H
          have cB := eq_true cm
          have cC := decide_eq_true cm
          clear cm
          obtain ⟨cn,H⟩ := iS H
          have cD := eq_true cn
          have cE := decide_eq_true cn
          clear cn
          replace H := Option.bind_eq_some_iff.mp H
          obtain ⟨co,b2,H⟩ := H
          have bU := aK b2
          clear b2
          by_cases cg : co = true
          ·subst cg
           rw [if_pos rfl] at H
           obtain rfl := Option.some.inj H
           obtain ⟨_,_,_,_,_,_⟩ := bk3_ ag.out
           obtain ⟨cP,bs,_,bu,_⟩ := info_parts info3
           obtain ⟨cp,b3,b4⟩ := print_take_of (P := Tryz.prog) (Value.int .i64) 0 28 3 .i64 Tryz.underlying28 bs bu ax am ab ac (dA) (dA) bj.out
           have az := aK (Kd.C_of_reads (h1 := fun _ => rfl) (b3 _ (Kd.reads_of_C ar.out)))
           have aA := aK b4
           clear b3 b4 bs bu
           have aI : 0 ≤ (ac : Int) := dA
           have aJ : ac < (ab.length : Int) := dA
           obtain ⟨aB,bK,al⟩ := Kd.at_int ar.out ac aI aJ
           cases bK
           replace al := xM HB al
           replace aI := eq_true aI
           replace aJ := eq_true aJ
           go_wp2_with (first|(go_at_call 29;refine calls_of_args (args' := #[.slice (some aB) (ab.take (ac : Int).toNat).length am,.int .i64 (rd ab ac)]) (by first|with_reducible rfl|(rw [show (ab.take (ac : Int).toNat).length = ac.toNat from (by rw [List.length_take];have h_ : (ac : Int) ≤ (ab.length : Int) := dA;omega)] <;> rfl)|(simp only [List.length_nil];done)|(simp only [List.length_nil];with_reducible rfl)) ?_;(with_reducible refine (r05_In.calls k3 _ _ (ab.take (ac : Int).toNat) (rd ab ac) true _ ?ae ?af bU.out).mono ?_);(case ae => exact cM (Kd.C_below az.out HB.out));(case af => exact aA.out);rintro e w' ⟨rfl,⟨nd,rfl⟩⟩;(try first|exact ⟨rfl,_,World.drewN_drewN _ _ _⟩|exact ⟨rfl,_,Eq.trans (World.drewN_drewN _ _ _) (congrArg (World.drewN _) (Nat.add_assoc _ _ _))⟩)))
           repeat (go_quiet (first|(go_at_call 29;refine calls_of_args (args' := #[.slice (some aB) (ab.take (ac : Int).toNat).length am,.int .i64 (rd ab ac)]) (by first|with_reducible rfl|(rw [show (ab.take (ac : Int).toNat).length = ac.toNat from (by rw [List.length_take];have h_ : (ac : Int) ≤ (ab.length : Int) := dA;omega)] <;> rfl)|(simp only [List.length_nil];done)|(simp only [List.length_nil];with_reducible rfl)) ?_;(with_reducible refine (r05_In.calls k3 _ _ (ab.take (ac : Int).toNat) (rd ab ac) true _ ?ae ?af bU.out).mono ?_);(case ae => exact cM (Kd.C_below az.out HB.out));(case af => exact aA.out);rintro e w' ⟨rfl,⟨nd,rfl⟩⟩;(try first|exact ⟨rfl,_,World.drewN_drewN _ _ _⟩|exact ⟨rfl,_,Eq.trans (World.drewN_drewN _ _ _) (congrArg (World.drewN _) (Nat.add_assoc _ _ _))⟩)));try go_wp2_with (first|(go_at_call 29;refine calls_of_args (args' := #[.slice (some aB) (ab.take (ac : Int).toNat).length am,.int .i64 (rd ab ac)]) (by first|with_reducible rfl|(rw [show (ab.take (ac : Int).toNat).length = ac.toNat from (by rw [List.length_take];have h_ : (ac : Int) ≤ (ab.length : Int) := dA;omega)] <;> rfl)|(simp only [List.length_nil];done)|(simp only [List.length_nil];with_reducible rfl)) ?_;(with_reducible refine (r05_In.calls k3 _ _ (ab.take (ac : Int).toNat) (rd ab ac) true _ ?ae ?af bU.out).mono ?_);(case ae => exact cM (Kd.C_below az.out HB.out));(case af => exact aA.out);rintro e w' ⟨rfl,⟨nd,rfl⟩⟩;(try first|exact ⟨rfl,_,World.drewN_drewN _ _ _⟩|exact ⟨rfl,_,Eq.trans (World.drewN_drewN _ _ _) (congrArg (World.drewN _) (Nat.add_assoc _ _ _))⟩))))
           go_ret
           exact ⟨by first|rfl|(simp [errW_none,errW_some] <;> rfl)|(simp [*,errW_none,errW_some] <;> rfl),bG HB.out⟩
          ·replace cg := Bool.eq_false_iff.mpr cg
           subst cg
           rw [if_neg (show ¬ (false = true) by decide)] at H
           have H' := aK H
           clear H
           obtain ⟨_,_,_,_,_,_⟩ := bk3_ ag.out
           obtain ⟨cQ,bv,_,bx,_⟩ := info_parts info3
           obtain ⟨cq,b5,b6⟩ := print_take_of (P := Tryz.prog) (Value.int .i64) 0 28 3 .i64 Tryz.underlying28 bv bx ax am ab ac (dA) (dA) bj.out
           have az := aK (Kd.C_of_reads (h1 := fun _ => rfl) (b5 _ (Kd.reads_of_C ar.out)))
           have aA := aK b6
           clear b5 b6 bv bx
           have aI : 0 ≤ (ac : Int) := dA
           have aJ : ac < (ab.length : Int) := dA
           obtain ⟨aB,bK,al⟩ := Kd.at_int ar.out ac aI aJ
           cases bK
           replace al := xM HB al
           replace aI := eq_true aI
           replace aJ := eq_true aJ
           go_wp2_with (first|(go_at_call 29;refine calls_of_args (args' := #[.slice (some aB) (ab.take (ac : Int).toNat).length am,.int .i64 (rd ab ac)]) (by first|with_reducible rfl|(rw [show (ab.take (ac : Int).toNat).length = ac.toNat from (by rw [List.length_take];have h_ : (ac : Int) ≤ (ab.length : Int) := dA;omega)] <;> rfl)|(simp only [List.length_nil];done)|(simp only [List.length_nil];with_reducible rfl)) ?_;(with_reducible refine (r05_In.calls k3 _ _ (ab.take (ac : Int).toNat) (rd ab ac) false _ ?ae ?af bU.out).mono ?_);(case ae => exact cM (Kd.C_below az.out HB.out));(case af => exact aA.out);rintro e w' ⟨rfl,⟨nd,rfl⟩⟩;(try first|exact ⟨rfl,_,World.drewN_drewN _ _ _⟩|exact ⟨rfl,_,Eq.trans (World.drewN_drewN _ _ _) (congrArg (World.drewN _) (Nat.add_assoc _ _ _))⟩)))
           repeat (go_quiet (first|(go_at_call 29;refine calls_of_args (args' := #[.slice (some aB) (ab.take (ac : Int).toNat).length am,.int .i64 (rd ab ac)]) (by first|with_reducible rfl|(rw [show (ab.take (ac : Int).toNat).length = ac.toNat from (by rw [List.length_take];have h_ : (ac : Int) ≤ (ab.length : Int) := dA;omega)] <;> rfl)|(simp only [List.length_nil];done)|(simp only [List.length_nil];with_reducible rfl)) ?_;(with_reducible refine (r05_In.calls k3 _ _ (ab.take (ac : Int).toNat) (rd ab ac) false _ ?ae ?af bU.out).mono ?_);(case ae => exact cM (Kd.C_below az.out HB.out));(case af => exact aA.out);rintro e w' ⟨rfl,⟨nd,rfl⟩⟩;(try first|exact ⟨rfl,_,World.drewN_drewN _ _ _⟩|exact ⟨rfl,_,Eq.trans (World.drewN_drewN _ _ _) (congrArg (World.drewN _) (Nat.add_assoc _ _ _))⟩)));try go_wp2_with (first|(go_at_call 29;refine calls_of_args (args' := #[.slice (some aB) (ab.take (ac : Int).toNat).length am,.int .i64 (rd ab ac)]) (by first|with_reducible rfl|(rw [show (ab.take (ac : Int).toNat).length = ac.toNat from (by rw [List.length_take];have h_ : (ac : Int) ≤ (ab.length : Int) := dA;omega)] <;> rfl)|(simp only [List.length_nil];done)|(simp only [List.length_nil];with_reducible rfl)) ?_;(with_reducible refine (r05_In.calls k3 _ _ (ab.take (ac : Int).toNat) (rd ab ac) false _ ?ae ?af bU.out).mono ?_);(case ae => exact cM (Kd.C_below az.out HB.out));(case af => exact aA.out);rintro e w' ⟨rfl,⟨nd,rfl⟩⟩;(try first|exact ⟨rfl,_,World.drewN_drewN _ _ _⟩|exact ⟨rfl,_,Eq.trans (World.drewN_drewN _ _ _) (congrArg (World.drewN _) (Nat.add_assoc _ _ _))⟩))))
           go_roundg k3
           case measure => have := bo.out;have := bp.out;have := bT.out;omega
           case rel => exact ⟨(wrap64 (ac + 1)),(by first|rfl|(simp;done)|(simp [*];done)),H',⟨by have := bo.out;have := bp.out;have := bT.out;omega⟩,⟨kM ag.out⟩,⟨bG HB.out⟩⟩
         ·rw [if_neg bJ] at H
          have br := decide_eq_false bJ
          clear bJ
          have H' := aK H
          clear H
          obtain ⟨a3,a4,a5,a6,a7,a8⟩ := bk3_ ag.out
          go_wp2
          repeat (go_quiet (fail);try go_wp2)
          go_loopg [7] k3 (fun kq v7 w' => ∃ (ad : Int),v7 = .int .i64 ad ∧ Aside0 (r43_members.l2 kq l0 ad aq ab aa = some r) ∧ Aside0 (kq ≤ k3) ∧ Aside0 (w'.heap[ak]? = some (.cells #[.string aq,(.slice ax ab.length am),(.slice ay aa.length an)] 36 (0,0))) ∧ Aside0 (Below w.heap.size w w'))
          case atStart => exact ⟨(0),(by first|rfl|(simp;done)|(simp [*];done)),H',⟨Nat.le_refl _⟩,⟨kM ag.out⟩,⟨bG HB.out⟩⟩
          case round =>
           clear H'
           try clear p2
           try clear p3
           try clear q3
           try clear hx3
           try clear p6
           try clear bJ
           try clear br
           try clear a3
           try clear a4
           try clear a5
           try clear a6
           try clear a7
           try clear a8
           try clear ah
           try clear aj
           try clear al
           try clear p2
           try clear p3
           try clear au
           try clear aF
           try clear aI
           try clear p6
           try clear q3
           try clear av
           try clear aG
           try clear aJ
           obtain ⟨ad,rfl,HA,ch,ag,HB⟩ := hrel
           cases gk with
          |zero => exact absurd HA.out (by simp [r43_members.l2])
          |succ k4 =>
            have H := HA.out
            clear HA
            simp only [r43_members.l2] at H
            by_cases bL : ad < (aa.length : Int)
            ·rw [if_pos bL] at H
             have bz := decide_eq_true bL
             clear bL
             obtain ⟨cr,H⟩ := iS H
             have cF := eq_true cr
             have cG := decide_eq_true cr
             clear cr
             obtain ⟨ct,H⟩ := iS H
             have cH := eq_true ct
             have cI := decide_eq_true ct
             clear ct
             replace H := Option.bind_eq_some_iff.mp H
             obtain ⟨cu,b7,H⟩ := H
             have bV := aK b7
             clear b7
             by_cases ci : cu = true
             ·subst ci
              rw [if_pos rfl] at H
              obtain rfl := Option.some.inj H
              obtain ⟨_,_,_,_,_,_⟩ := bk3_ ag.out
              obtain ⟨cR,bB,_,bC,_⟩ := info_parts info9
              obtain ⟨cv,b8,b9⟩ := print_take_of (P := Tryz.prog) Value.string (⟨#[]⟩ : ByteArray) 31 9 .i64 Tryz.underlying31 bB bC ay an aa ad (dA) (dA) bk.out
              have aC := aK (Kd.C_of_reads (h1 := fun _ => rfl) (b8 _ (Kd.reads_of_C aH.out)))
              have aD := aK b9
              clear b8 b9 bB bC
              have aN : 0 ≤ (ad : Int) := dA
              have aO : ad < (aa.length : Int) := dA
              obtain ⟨aE,bN,ap⟩ := Kd.at_string aH.out ad aN aO
              cases bN
              replace ap := xM HB ap
              replace aN := eq_true aN
              replace aO := eq_true aO
              go_wp2_with (first|(go_at_call 38;refine calls_of_args (args' := #[.slice (some aE) (aa.take (ad : Int).toNat).length an,.string (rdOf ByteArray.empty aa ad)]) (by first|with_reducible rfl|(rw [show (aa.take (ad : Int).toNat).length = ad.toNat from (by rw [List.length_take];have h_ : (ad : Int) ≤ (aa.length : Int) := dA;omega)] <;> rfl)|(simp only [List.length_nil];done)|(simp only [List.length_nil];with_reducible rfl)) ?_;(with_reducible refine (r43_inText.calls k4 _ _ (aa.take (ad : Int).toNat) (rdOf ByteArray.empty aa ad) true _ ?ae ?af bV.out).mono ?_);(case ae => exact cM (Kd.C_below aC.out HB.out));(case af => exact aD.out);rintro e w' ⟨rfl,⟨nd,rfl⟩⟩;(try first|exact ⟨rfl,_,World.drewN_drewN _ _ _⟩|exact ⟨rfl,_,Eq.trans (World.drewN_drewN _ _ _) (congrArg (World.drewN _) (Nat.add_assoc _ _ _))⟩)))
              repeat (go_quiet (first|(go_at_call 38;refine calls_of_args (args' := #[.slice (some aE) (aa.take (ad : Int).toNat).length an,.string (rdOf ByteArray.empty aa ad)]) (by first|with_reducible rfl|(rw [show (aa.take (ad : Int).toNat).length = ad.toNat from (by rw [List.length_take];have h_ : (ad : Int) ≤ (aa.length : Int) := dA;omega)] <;> rfl)|(simp only [List.length_nil];done)|(simp only [List.length_nil];with_reducible rfl)) ?_;(with_reducible refine (r43_inText.calls k4 _ _ (aa.take (ad : Int).toNat) (rdOf ByteArray.empty aa ad) true _ ?ae ?af bV.out).mono ?_);(case ae => exact cM (Kd.C_below aC.out HB.out));(case af => exact aD.out);rintro e w' ⟨rfl,⟨nd,rfl⟩⟩;(try first|exact ⟨rfl,_,World.drewN_drewN _ _ _⟩|exact ⟨rfl,_,Eq.trans (World.drewN_drewN _ _ _) (congrArg (World.drewN _) (Nat.add_assoc _ _ _))⟩)));try go_wp2_with (first|(go_at_call 38;refine calls_of_args (args' := #[.slice (some aE) (aa.take (ad : Int).toNat).length an,.string (rdOf ByteArray.empty aa ad)]) (by first|with_reducible rfl|(rw [show (aa.take (ad : Int).toNat).length = ad.toNat from (by rw [List.length_take];have h_ : (ad : Int) ≤ (aa.length : Int) := dA;omega)] <;> rfl)|(simp only [List.length_nil];done)|(simp only [List.length_nil];with_reducible rfl)) ?_;(with_reducible refine (r43_inText.calls k4 _ _ (aa.take (ad : Int).toNat) (rdOf ByteArray.empty aa ad) true _ ?ae ?af bV.out).mono ?_);(case ae => exact cM (Kd.C_below aC.out HB.out));(case af => exact aD.out);rintro e w' ⟨rfl,⟨nd,rfl⟩⟩;(try first|exact ⟨rfl,_,World.drewN_drewN _ _ _⟩|exact ⟨rfl,_,Eq.trans (World.drewN_drewN _ _ _) (congrArg (World.drewN _) (Nat.add_assoc _ _ _))⟩))))
              go_ret
              exact ⟨by first|rfl|(simp [errW_none,errW_some] <;> rfl)|(simp [*,errW_none,errW_some] <;> rfl),bG HB.out⟩
             ·replace ci := Bool.eq_false_iff.mpr ci
              subst ci
              rw [if_neg (show ¬ (false = true) by decide)] at H
              have H' := aK H
              clear H
              obtain ⟨_,_,_,_,_,_⟩ := bk3_ ag.out
              obtain ⟨cS,bD,_,bE,_⟩ := info_parts info9
              obtain ⟨cw,ca,cb⟩ := print_take_of (P := Tryz.prog) Value.string (⟨#[]⟩ : ByteArray) 31 9 .i64 Tryz.underlying31 bD bE ay an aa ad (dA) (dA) bk.out
              have aC := aK (Kd.C_of_reads (h1 := fun _ => rfl) (ca _ (Kd.reads_of_C aH.out)))
              have aD := aK cb
              clear ca cb bD bE
              have aN : 0 ≤ (ad : Int) := dA
              have aO : ad < (aa.length : Int) := dA
              obtain ⟨aE,bN,ap⟩ := Kd.at_string aH.out ad aN aO
              cases bN
              replace ap := xM HB ap
              replace aN := eq_true aN
              replace aO := eq_true aO
              go_wp2_with (first|(go_at_call 38;refine calls_of_args (args' := #[.slice (some aE) (aa.take (ad : Int).toNat).length an,.string (rdOf ByteArray.empty aa ad)]) (by first|with_reducible rfl|(rw [show (aa.take (ad : Int).toNat).length = ad.toNat from (by rw [List.length_take];have h_ : (ad : Int) ≤ (aa.length : Int) := dA;omega)] <;> rfl)|(simp only [List.length_nil];done)|(simp only [List.length_nil];with_reducible rfl)) ?_;(with_reducible refine (r43_inText.calls k4 _ _ (aa.take (ad : Int).toNat) (rdOf ByteArray.empty aa ad) false _ ?ae ?af bV.out).mono ?_);(case ae => exact cM (Kd.C_below aC.out HB.out));(case af => exact aD.out);rintro e w' ⟨rfl,⟨nd,rfl⟩⟩;(try first|exact ⟨rfl,_,World.drewN_drewN _ _ _⟩|exact ⟨rfl,_,Eq.trans (World.drewN_drewN _ _ _) (congrArg (World.drewN _) (Nat.add_assoc _ _ _))⟩)))
              repeat (go_quiet (first|(go_at_call 38;refine calls_of_args (args' := #[.slice (some aE) (aa.take (ad : Int).toNat).length an,.string (rdOf ByteArray.empty aa ad)]) (by first|with_reducible rfl|(rw [show (aa.take (ad : Int).toNat).length = ad.toNat from (by rw [List.length_take];have h_ : (ad : Int) ≤ (aa.length : Int) := dA;omega)] <;> rfl)|(simp only [List.length_nil];done)|(simp only [List.length_nil];with_reducible rfl)) ?_;(with_reducible refine (r43_inText.calls k4 _ _ (aa.take (ad : Int).toNat) (rdOf ByteArray.empty aa ad) false _ ?ae ?af bV.out).mono ?_);(case ae => exact cM (Kd.C_below aC.out HB.out));(case af => exact aD.out);rintro e w' ⟨rfl,⟨nd,rfl⟩⟩;(try first|exact ⟨rfl,_,World.drewN_drewN _ _ _⟩|exact ⟨rfl,_,Eq.trans (World.drewN_drewN _ _ _) (congrArg (World.drewN _) (Nat.add_assoc _ _ _))⟩)));try go_wp2_with (first|(go_at_call 38;refine calls_of_args (args' := #[.slice (some aE) (aa.take (ad : Int).toNat).length an,.string (rdOf ByteArray.empty aa ad)]) (by first|with_reducible rfl|(rw [show (aa.take (ad : Int).toNat).length = ad.toNat from (by rw [List.length_take];have h_ : (ad : Int) ≤ (aa.length : Int) := dA;omega)] <;> rfl)|(simp only [List.length_nil];done)|(simp only [List.length_nil];with_reducible rfl)) ?_;(with_reducible refine (r43_inText.calls k4 _ _ (aa.take (ad : Int).toNat) (rdOf ByteArray.empty aa ad) false _ ?ae ?af bV.out).mono ?_);(case ae => exact cM (Kd.C_below aC.out HB.out));(case af => exact aD.out);rintro e w' ⟨rfl,⟨nd,rfl⟩⟩;(try first|exact ⟨rfl,_,World.drewN_drewN _ _ _⟩|exact ⟨rfl,_,Eq.trans (World.drewN_drewN _ _ _) (congrArg (World.drewN _) (Nat.add_assoc _ _ _))⟩))))
              go_roundg k4
              case measure => have := bo.out;have := bp.out;have := bT.out;have := ch.out;omega
              case rel => exact ⟨(wrap64 (ad + 1)),(by first|rfl|(simp;done)|(simp [*];done)),H',⟨by have := bo.out;have := bp.out;have := bT.out;have := ch.out;omega⟩,⟨kM ag.out⟩,⟨bG HB.out⟩⟩
            ·rw [if_neg bL] at H
             have bz := decide_eq_false bL
             clear bL
             have H' := aK H
             clear H
             obtain ⟨a9,ba,bb,bc,bd,be⟩ := bk3_ ag.out
             go_wp2
             repeat (go_quiet (fail);try go_wp2)
             go_loopg [8] k4 (fun kq v8 w' => ∃ (ao : Int),v8 = .int .i64 ao ∧ Aside0 (r43_members.l3 kq l0 ao aq ab aa = some r) ∧ Aside0 (kq ≤ k4) ∧ Aside0 (w'.heap[ak]? = some (.cells #[.string aq,(.slice ax ab.length am),(.slice ay aa.length an)] 36 (0,0))) ∧ Aside0 (Below w.heap.size w w'))
             case atStart => exact ⟨(0),(by first|rfl|(simp;done)|(simp [*];done)),H',⟨Nat.le_refl _⟩,⟨kM ag.out⟩,⟨bG HB.out⟩⟩
             case round =>
              clear H'
              try clear p2
              try clear p3
              try clear q3
              try clear hx3
              try clear p6
              try clear bL
              try clear bz
              try clear p33
              try clear q33
              try clear hx33
              try clear p34
              try clear q34
              try clear hx34
              try clear a9
              try clear ba
              try clear bb
              try clear bc
              try clear bd
              try clear be
              try clear ah
              try clear aj
              try clear al
              try clear ap
              try clear p2
              try clear p3
              try clear au
              try clear aF
              try clear aI
              try clear aN
              try clear p6
              try clear q3
              try clear av
              try clear aG
              try clear aJ
              try clear aO
              obtain ⟨ao,rfl,HA,cJ,ag,HB⟩ := hrel
              cases gk with
             |zero => exact absurd HA.out (by simp [r43_members.l3])
             |succ k5 =>
               have H := HA.out
               clear HA
               simp only [r43_members.l3] at H
               by_cases bW : ao < (aa.length : Int)
               ·rw [if_pos bW] at H
                have cc := decide_eq_true bW
                clear bW
                obtain ⟨cK,H⟩ := iS H
                have cL := decide_eq_true cK
                clear cK
                replace H := Option.bind_eq_some_iff.mp H
                obtain ⟨aP,cd,H⟩ := H
                have bX := aK cd
                clear cd
                by_cases bY : aP < 0
                ·rw [if_pos bY] at H
                 have ce := decide_eq_true bY
                 clear bY
                 obtain rfl := Option.some.inj H
                 obtain ⟨_,_,_,_,_,_⟩ := bk3_ ag.out
                 have aQ : 0 ≤ (ao : Int) := dA
                 have aR : ao < (aa.length : Int) := dA
                 obtain ⟨cf,bO,aw⟩ := Kd.at_string aH.out ao aQ aR
                 cases bO
                 replace aw := xM HB aw
                 replace aQ := eq_true aQ
                 replace aR := eq_true aR
                 go_wp2_with (first|(go_at_call 36;(with_reducible refine (r43_at.calls k5 _ _ l0 (rdOf ByteArray.empty aa ao) aP _ ?ae ?af bX.out).mono ?_);(case ae => exact cM (Kd.C_below bP.out HB.out));(case af => exact bQ.out);rintro e w' ⟨rfl,⟨nd,rfl⟩⟩;(try first|exact ⟨rfl,_,World.drewN_drewN _ _ _⟩|exact ⟨rfl,_,Eq.trans (World.drewN_drewN _ _ _) (congrArg (World.drewN _) (Nat.add_assoc _ _ _))⟩)))
                 repeat (go_quiet (first|(go_at_call 36;(with_reducible refine (r43_at.calls k5 _ _ l0 (rdOf ByteArray.empty aa ao) aP _ ?ae ?af bX.out).mono ?_);(case ae => exact cM (Kd.C_below bP.out HB.out));(case af => exact bQ.out);rintro e w' ⟨rfl,⟨nd,rfl⟩⟩;(try first|exact ⟨rfl,_,World.drewN_drewN _ _ _⟩|exact ⟨rfl,_,Eq.trans (World.drewN_drewN _ _ _) (congrArg (World.drewN _) (Nat.add_assoc _ _ _))⟩)));try go_wp2_with (first|(go_at_call 36;(with_reducible refine (r43_at.calls k5 _ _ l0 (rdOf ByteArray.empty aa ao) aP _ ?ae ?af bX.out).mono ?_);(case ae => exact cM (Kd.C_below bP.out HB.out));(case af => exact bQ.out);rintro e w' ⟨rfl,⟨nd,rfl⟩⟩;(try first|exact ⟨rfl,_,World.drewN_drewN _ _ _⟩|exact ⟨rfl,_,Eq.trans (World.drewN_drewN _ _ _) (congrArg (World.drewN _) (Nat.add_assoc _ _ _))⟩))))
                 go_ret
                 exact ⟨by first|rfl|(simp [errW_none,errW_some] <;> rfl)|(simp [*,errW_none,errW_some] <;> rfl),bG HB.out⟩
                ·rw [if_neg bY] at H
                 have ce := decide_eq_false bY
                 clear bY
                 have H' := aK H
                 clear H
                 obtain ⟨_,_,_,_,_,_⟩ := bk3_ ag.out
                 have aQ : 0 ≤ (ao : Int) := dA
                 have aR : ao < (aa.length : Int) := dA
                 obtain ⟨cf,bO,aw⟩ := Kd.at_string aH.out ao aQ aR
                 cases bO
                 replace aw := xM HB aw
                 replace aQ := eq_true aQ
                 replace aR := eq_true aR
                 go_wp2_with (first|(go_at_call 36;(with_reducible refine (r43_at.calls k5 _ _ l0 (rdOf ByteArray.empty aa ao) aP _ ?ae ?af bX.out).mono ?_);(case ae => exact cM (Kd.C_below bP.out HB.out));(case af => exact bQ.out);rintro e w' ⟨rfl,⟨nd,rfl⟩⟩;(try first|exact ⟨rfl,_,World.drewN_drewN _ _ _⟩|exact ⟨rfl,_,Eq.trans (World.drewN_drewN _ _ _) (congrArg (World.drewN _) (Nat.add_assoc _ _ _))⟩)))
                 repeat (go_quiet (first|(go_at_call 36;(with_reducible refine (r43_at.calls k5 _ _ l0 (rdOf ByteArray.empty aa ao) aP _ ?ae ?af bX.out).mono ?_);(case ae => exact cM (Kd.C_below bP.out HB.out));(case af => exact bQ.out);rintro e w' ⟨rfl,⟨nd,rfl⟩⟩;(try first|exact ⟨rfl,_,World.drewN_drewN _ _ _⟩|exact ⟨rfl,_,Eq.trans (World.drewN_drewN _ _ _) (congrArg (World.drewN _) (Nat.add_assoc _ _ _))⟩)));try go_wp2_with (first|(go_at_call 36;(with_reducible refine (r43_at.calls k5 _ _ l0 (rdOf ByteArray.empty aa ao) aP _ ?ae ?af bX.out).mono ?_);(case ae => exact cM (Kd.C_below bP.out HB.out));(case af => exact bQ.out);rintro e w' ⟨rfl,⟨nd,rfl⟩⟩;(try first|exact ⟨rfl,_,World.drewN_drewN _ _ _⟩|exact ⟨rfl,_,Eq.trans (World.drewN_drewN _ _ _) (congrArg (World.drewN _) (Nat.add_assoc _ _ _))⟩))))
                 go_roundg k5
                 case measure => have := bo.out;have := bp.out;have := bT.out;have := ch.out;have := cJ.out;omega
                 case rel => exact ⟨(wrap64 (ao + 1)),(by first|rfl|(simp;done)|(simp [*];done)),H',⟨by have := bo.out;have := bp.out;have := bT.out;have := ch.out;have := cJ.out;omega⟩,⟨kM ag.out⟩,⟨bG HB.out⟩⟩
               ·rw [if_neg bW] at H
                have cc := decide_eq_false bW
                clear bW
                obtain rfl := Option.some.inj H
                obtain ⟨_,_,_,_,_,_⟩ := bk3_ ag.out
                go_wp2
                repeat (go_quiet (fail);try go_wp2)
                go_ret
                exact ⟨by first|rfl|(simp [errW_none,errW_some] <;> rfl)|(simp [*,errW_none,errW_some] <;> rfl),bG HB.out⟩
end Go.Proofs.YtobdkgoapcbipaaGreatDoor.J
