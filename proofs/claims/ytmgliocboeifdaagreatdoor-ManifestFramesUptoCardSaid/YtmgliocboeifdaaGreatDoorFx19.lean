import Derived.Test.YtmgliocboeifdaaGreatDoorFx0
import Derived.Test.YtmgliocboeifdaaGreatDoorFx17
import Derived.Test.YtmgliocboeifdaaGreatDoorFx18
namespace Go.Proofs.YtmgliocboeifdaaGreatDoor.F
open Go.RowKit Go.Proofs.YtmgliocboeifdaaGreatDoorW.PrintWords Go.Proofs.YtmgliocboeifdaaGreatDoorW.PrintLast Go.Proofs.YtmgliocboeifdaaGreatDoorW.PrintMore
set_option maxHeartbeats 4000000
set_option maxRecDepth 100000
attribute [local go_sem] max2_int min2_int max_two min_two max_three min_three max_four min_four
set_option linter.unusedVariables false
set_option linter.unusedSimpArgs false
def r33_list.f (k : Nat) (l0 : List Int) (l1 : List Int) : Option (List Int) := (r03_PutList.f k l0 l1).bind fun aa => (if aa.2 = 0 then (some aa.1) else ((r03_Put.f k l0 0).bind fun ab => (some ab)))
theorem r33_list.mono : ∀ a0 a1 k, LeO (r33_list.f k a0 a1) (r33_list.f (k + 1) a0 a1) := by
 intro a0 a1 k
 unfold r33_list.f
 repeat' (with_reducible first|exact r03_Put.mono _ _ _|exact r03_PutList.mono _ _ _|exact LeO.refl _|exact LeO.none _|refine LeO.ite ?_ ?_|refine LeO.bind ?_ (fun _ => ?_))
theorem r33_list.calls (k : Nat) (A0 : Option Addr) (c0 : Nat) (l0 : List Int) (A1 : Option Addr) (c1 : Nat) (l1 : List Int) (r : List Int) (w : World) (aq : Kd.C (Kd.int .u8) w A0 l0.length l0) (ar : l0.length ≤ c0) (au : Kd.C (Kd.int .i64) w A1 l1.length l1) (av : l1.length ≤ c1) (h : r33_list.f k l0 l1 = some r) :
  Calls Tryz.prog 45 #[.slice A0 l0.length c0,.slice A1 l1.length c1] w fun e w' => ∃ aw : Value,e = .returned (aw) ∧ Kd.R (Kd.int .u8) 5 w' w.heap.size (fun _ => True) aw r ∧ Below w.heap.size w w' := by
 have al := aK aq
 have am := aK ar
 clear aq ar
 have ax := aK au
 have ay := aK av
 clear au av
 have HB := aK (Below.refl w.heap.size w)
 have H : ((r03_PutList.f k l0 l1).bind fun ah => (if ah.2 = 0 then (some ah.1) else ((r03_Put.f k l0 0).bind fun ac => (some ac)))) = some r := h
 clear h
 replace H := Option.bind_eq_some_iff.mp H
 obtain ⟨⟨aj,ag⟩,az,H⟩ := H
 replace H : (if ag = 0 then (some aj) else ((r03_Put.f k l0 0).bind fun ac => (some ac))) = some r := H
 have A3 := aK az
 clear az
 by_cases c4 : ag = 0
 ·rw [if_pos c4] at H
  have an := beq_iff_eq.mpr c4
  have ao := bne_eq_false_iff_eq.mpr c4
  clear c4
  obtain rfl := Option.some.inj H
  go_enter Tryz.func45,Tryz.ntmps45
  go_wp2_with (first|((with_reducible refine gate_callee (f := 61) rfl ?_);refine gL 10 Tryz.func61 #[.slice A0 l0.length c0,.slice A1 l1.length c1] ?_;(with_reducible refine (r03_PutList.calls k _ _ l0 _ _ l1 aj ag _ ?aa ?ab ?ad ?ae A3.out).mono ?_);(case aa => exact cM al.out);(case ab => exact am.out);(case ad => exact cM ax.out);(case ae => exact ay.out);rintro e w5 ⟨ap,rfl,ai,hb⟩;refine ⟨_,rfl,?_⟩;have af := aK (Kd.R_lower ai (below_size (bM HB.out)));replace HB := aK (below_step (bM HB.out) hb);(try clear hb);(try clear hk);(try clear ai)))
  go_ret
  exact ⟨_,by first|rfl|(simp [errW_none,errW_some] <;> rfl)|(simp [*,errW_none,errW_some] <;> rfl),rM af.out,bM HB.out⟩
 ·rw [if_neg c4] at H
  have an := beq_eq_false_iff_ne.mpr c4
  have ao := bne_iff_ne.mpr c4
  replace H := Option.bind_eq_some_iff.mp H
  obtain ⟨ac,aA,H⟩ := H
  have A6 := aK aA
  clear aA
  obtain rfl := Option.some.inj H
  go_enter Tryz.func45,Tryz.ntmps45
  go_wp2_with (first|((with_reducible refine gate_callee (f := 61) rfl ?_);refine gL 10 Tryz.func61 #[.slice A0 l0.length c0,.slice A1 l1.length c1] ?_;(with_reducible refine (r03_PutList.calls k _ _ l0 _ _ l1 aj ag _ ?aa ?ab ?ad ?ae A3.out).mono ?_);(case aa => exact cM al.out);(case ab => exact am.out);(case ad => exact cM ax.out);(case ae => exact ay.out);rintro e w7 ⟨ap,rfl,ai,hb⟩;refine ⟨_,rfl,?_⟩;have af := aK (Kd.R_lower ai (below_size (bM HB.out)));replace HB := aK (below_step (bM HB.out) hb);(try clear hb);(try clear hk);(try clear ai))|((with_reducible refine gate_callee (f := 44) rfl ?_);refine gL 16 Tryz.func44 #[.slice A0 l0.length c0,.int .i64 0] ?_;(with_reducible refine (r03_Put.calls k _ _ l0 0 ac _ ?aa ?ab A6.out).mono ?_);(case aa => exact cM (Kd.C_below al.out HB.out));(case ab => exact am.out);rintro e w8 ⟨aB,rfl,ai,hb⟩;refine ⟨_,rfl,?_⟩;have ak := aK (Kd.R_lower (Kd.R_new' ai (Kd.R_lt (rM af.out))) (below_size (bM HB.out)));replace HB := aK (below_step (bM HB.out) hb);(try clear hb);(try clear hk);(try clear ai)))
  go_ret
  exact ⟨_,by first|rfl|(simp [errW_none,errW_some] <;> rfl)|(simp [*,errW_none,errW_some] <;> rfl),rM (Kd.R_mono ak.out (fun _ hk => trivial)),bM HB.out⟩
def r03_PutString.l0 : Nat → ByteArray → List Int → Int → Option (List Int)
|0,_,_,_ => none
|k + 1,x1,x5,x6 => if x6 < (x1.size : Int) then (if 0 ≤ x6 then (if x5.length < 140737488355328 then (r03_PutString.l0 k x1 (x5 ++ [bt x1 x6]) (wrap64 (x6 + 1))) else (none)) else (none)) else (some x5)
def r03_PutString.f (k : Nat) (l0 : List Int) (a1 : ByteArray) : Option (List Int) := (r03_Put.f k l0 (a1.size : Int)).bind fun aa => (r03_PutString.l0 k a1 aa 0)
theorem r03_PutString.mono_l : ∀ k, (∀ y0 y1 y2, LeO (r03_PutString.l0 k y0 y1 y2) (r03_PutString.l0 (k + 1) y0 y1 y2))
|0 => fun _ _ _ r h => by simp [r03_PutString.l0] at h
|k + 1 => by
  have ih0 := r03_PutString.mono_l k
  ·intro y0 y1 y2
   unfold r03_PutString.l0
   repeat' (with_reducible first|exact ih0 _ _ _|exact LeO.refl _|exact LeO.none _|refine LeO.ite ?_ ?_|refine LeO.bind ?_ (fun _ => ?_))
theorem r03_PutString.mono : ∀ a0 a1 k, LeO (r03_PutString.f k a0 a1) (r03_PutString.f (k + 1) a0 a1) := by
 intro a0 a1 k
 have ih0 := r03_PutString.mono_l k
 unfold r03_PutString.f
 repeat' (with_reducible first|exact ih0 _ _ _|exact r03_Put.mono _ _ _|exact LeO.refl _|exact LeO.none _|refine LeO.ite ?_ ?_|refine LeO.bind ?_ (fun _ => ?_))
theorem r03_PutString.calls (k : Nat) (A0 : Option Addr) (c0 : Nat) (l0 : List Int) (a1 : ByteArray) (r : List Int) (w : World) (ao : Kd.C (Kd.int .u8) w A0 l0.length l0) (ap : l0.length ≤ c0) (h : r03_PutString.f k l0 a1 = some r) :
  Calls Tryz.prog 46 #[.slice A0 l0.length c0,.string a1] w fun e w' => ∃ aq : Value,e = .returned (aq) ∧ Kd.R (Kd.int .u8) 5 w' w.heap.size (fun _ => True) aq r ∧ Below w.heap.size w w' := by
 have aw := aK ao
 have ax := aK ap
 clear ao ap
 have HB := aK (Below.refl w.heap.size w)
 have H : ((r03_Put.f k l0 (a1.size : Int)).bind fun ad => (r03_PutString.l0 k a1 ad 0)) = some r := h
 clear h
 replace H := Option.bind_eq_some_iff.mp H
 obtain ⟨ad,ar,H⟩ := H
 have A3 := aK ar
 clear ar
 have H' := aK H
 clear H
 go_enter Tryz.func46,Tryz.ntmps46
 go_wp2_with (first|((with_reducible refine gate_callee (f := 44) rfl ?_);refine gL 10 Tryz.func44 #[.slice A0 l0.length c0,.int .i64 (a1.size : Int)] ?_;(with_reducible refine (r03_Put.calls k _ _ l0 (a1.size : Int) ad _ ?ae ?af A3.out).mono ?_);(case ae => exact cM aw.out);(case af => exact ax.out);rintro e w4 ⟨ay,rfl,au,hb⟩;refine ⟨_,rfl,?_⟩;have ag := aK (Kd.R_lower au (below_size (bM HB.out)));replace HB := aK (below_step (bM HB.out) hb);(try clear hb);(try clear hk);(try clear au)))
 go_loopg [5,6] k (fun kq v5 v6 w' => ∃ (ac : List Int) (aa : Int),v6 = .int .i64 aa ∧ Aside0 (r03_PutString.l0 kq a1 ac aa = some r) ∧ Aside0 (kq ≤ k) ∧ Aside0 (Kd.R (Kd.int .u8) 5 w' w.heap.size (fun _ => True) v5 ac) ∧ Aside0 (Below w.heap.size w w'))
 case atStart => exact ⟨(ad),(0),(by first|rfl|(simp;done)|(simp [*];done)),H',⟨Nat.le_refl _⟩,⟨rM ag.out⟩,⟨bM HB.out⟩⟩
 case round =>
  clear H'
  try clear p2
  obtain ⟨ac,aa,rfl,HA,av,ah,HB⟩ := hrel
  cases gk with
 |zero => exact absurd HA.out (by simp [r03_PutString.l0])
 |succ k1 =>
   have H := HA.out
   clear HA
   simp only [r03_PutString.l0] at H
   by_cases c5 : aa < (a1.size : Int)
   ·rw [if_pos c5] at H
    have al := decide_eq_true c5
    clear c5
    obtain ⟨c6,H⟩ := iS H
    have az := decide_eq_true c6
    clear c6
    obtain ⟨c8,H⟩ := iS H
    have am := aK c8
    clear c8
    obtain ⟨ai,ab⟩ : ∃ y_ : List Int,y_ = (ac ++ [bt a1 aa]) := ⟨_,rfl⟩
    replace H : (r03_PutString.l0 k1 a1 ai (wrap64 (aa + 1))) = some r := by first|(rw [ab];with_reducible exact H)|(have an := (Option.bind_some _ _).symm.trans H;rw [ab];with_reducible exact an)|(have an := (Option.bind_some _ _).symm.trans H;with_reducible exact an)|with_reducible exact H|(rw [ab];exact H)|exact H
    have aj := aK ab
    clear ab
    have H' := aK H
    clear H
    have p7 : 0 ≤ (aa : Int) := dA
    have q7 : aa < (a1.size : Int) := dA
    have aC := bt_at a1 aa
    replace p7 := eq_true p7
    replace q7 := eq_true q7
    go_wp2_with (first|((with_reducible refine gate_builtin (b := .append) (xs := #[.tmp 17,.tmp 21]) rfl ?_);at_builtin;refine Kd.R_append (Kd.int .u8) (w0 := w) w.heap.size rfl (.tmp 17) (.tmp 21) 31 5 (.int .u8 0) 1 rfl Tryz.underlying31 info5 rfl (by decide) (by omega) u5 ac (bt a1 aa) [.int .u8 (bt a1 aa)] (fun _ => True) (fun _ => False) rfl rfl ?aP (fun _ hk => hk.elim) ?aF ?aO ?aB ?aS ?aL ?_;(case aP => exact rfl);(case aB => exact (bM HB.out));(case aF => exact (fun _ _ => trivial));(case aO => exact (rM ah.out));(case aS => exact (below_size (bM HB.out)));(case aL => have := am.out;omega);intro aA w9 ho hb hg hat;rw [← aj.out] at ho;replace HB := aK (hb);have ak := aK (ho);clear ho hb hg hat))
    go_roundg k1
    case measure => have := av.out;omega
    case rel => exact ⟨(ai),(wrap64 (aa + 1)),(by first|rfl|(simp;done)|(simp [*];done)),H',⟨by have := av.out;omega⟩,⟨rM ak.out⟩,⟨bM HB.out⟩⟩
   ·rw [if_neg c5] at H
    have al := decide_eq_false c5
    clear c5
    obtain rfl := Option.some.inj H
    go_wp2
    go_ret
    exact ⟨_,by first|rfl|(simp [errW_none,errW_some] <;> rfl)|(simp [*,errW_none,errW_some] <;> rfl),rM ah.out,bM HB.out⟩
def r33_Encode.l0 : Nat → List Int → Int → Int → Int → Int → List Int → List Int → List ByteArray → Option (List Int)
|0,_,_,_,_,_,_,_,_ => none
|k + 1,x3,x4,ab,ac,ad,ae,af,aa => if x4 < (aa.length : Int) then (if 0 ≤ x4 then ((r03_PutString.f k x3 (rdOf ByteArray.empty aa x4)).bind fun ag => (r33_Encode.l0 k ag (wrap64 (x4 + 1)) ab ac ad ae af aa)) else (none)) else (some x3)
def r33_Encode.f (k : Nat) (aa : Int) (ab : Int) (ac : Int) (ad : List Int) (ae : List Int) (af : List ByteArray) : Option (List Int) := (r03_Put.f k ([] : List Int) aa).bind fun ag => ((r03_Put.f k ag ab).bind fun ah => ((r03_Put.f k ah ac).bind fun ai => ((r33_list.f k ai ad).bind fun aj => ((r33_list.f k aj ae).bind fun ak => ((r03_Put.f k ak (af.length : Int)).bind fun al => (r33_Encode.l0 k al 0 aa ab ac ad ae af))))))
theorem r33_Encode.mono_l : ∀ k, (∀ y0 y1 y2 y3 y4 y5 y6 y7, LeO (r33_Encode.l0 k y0 y1 y2 y3 y4 y5 y6 y7) (r33_Encode.l0 (k + 1) y0 y1 y2 y3 y4 y5 y6 y7))
|0 => fun _ _ _ _ _ _ _ _ r h => by simp [r33_Encode.l0] at h
|k + 1 => by
  have ih0 := r33_Encode.mono_l k
  ·intro y0 y1 y2 y3 y4 y5 y6 y7
   unfold r33_Encode.l0
   repeat' (with_reducible first|exact ih0 _ _ _ _ _ _ _ _|exact r03_PutString.mono _ _ _|exact LeO.refl _|exact LeO.none _|refine LeO.ite ?_ ?_|refine LeO.bind ?_ (fun _ => ?_))
theorem r33_Encode.mono : ∀ a0 a1 a2 a3 a4 a5 k, LeO (r33_Encode.f k a0 a1 a2 a3 a4 a5) (r33_Encode.f (k + 1) a0 a1 a2 a3 a4 a5) := by
 intro a0 a1 a2 a3 a4 a5 k
 have ih0 := r33_Encode.mono_l k
 unfold r33_Encode.f
 repeat' (with_reducible first|exact ih0 _ _ _ _ _ _ _ _|exact r03_Put.mono _ _ _|exact r03_PutString.mono _ _ _|exact r33_list.mono _ _ _|exact LeO.refl _|exact LeO.none _|refine LeO.ite ?_ ?_|refine LeO.bind ?_ (fun _ => ?_))
def r33_Encode.T1 : Bool × List (List Nat × List Nat) := (true, [([], []), ([0], [0]), ([1], [1]), ([], []), ([3], [3]), ([2, 4, 2], [2, 4]), ([], []), ([6], [6]), ([5, 7, 5], [5, 7]), ([8, 8, 0, 1, 2, 3, 4, 5, 6, 7, 8], [8])])
def r33_Encode.B1 : List Nat := [0, 1, 3, 0, 8, 31, 0, 64, 255, 511]
theorem r33_Encode.tab1 : rtab .any (opsOf Tryz.f13 1) = r33_Encode.T1 := by kernel_rfl
theorem r33_Encode.bits1 : waitsOk r33_Encode.T1.2 r33_Encode.B1 = true := by kernel_rfl
def r33_Encode.T2 : Bool × List (List Nat × List Nat) := (true, [([], []), ([], []), ([1], [1]), ([0, 2], [0, 2]), ([], []), ([4], [4]), ([3, 5, 3], [3, 5]), ([6, 6, 0, 1, 2, 3, 4, 5, 6], [0, 6])])
def r33_Encode.B2 : List Nat := [0, 0, 2, 7, 0, 16, 63, 127]
theorem r33_Encode.tab2 : rtab .any (opsOf Tryz.f13 2) = r33_Encode.T2 := by kernel_rfl
theorem r33_Encode.bits2 : waitsOk r33_Encode.T2.2 r33_Encode.B2 = true := by kernel_rfl
theorem r33_Encode.calls (k : Nat) (ap : Int) (aq : Int) (ar : Int) (av : Option Addr) (aw : Nat) (ak : List Int) (ax : Option Addr) (ay : Nat) (al : List Int) (aD : Option Addr) (aE : Nat) (ah : List ByteArray) (r : List Int) (w : World) (aW : Kd.C (Kd.int .i64) w av ak.length ak) (aX : ak.length ≤ aw) (aY : Kd.C (Kd.int .i64) w ax al.length al) (aZ : al.length ≤ ay) (a0 : Kd.C Kd.string w aD ah.length ah) (a1 : ah.length ≤ aE) (h : r33_Encode.f k ap aq ar ak al ah = some r) :
  Calls Tryz.prog 13 #[.agg #[.int .i64 ap,.int .i64 aq,.int .i64 ar,.slice av ak.length aw,.slice ax al.length ay,.slice aD ah.length aE]] w fun e w' => ∃ bQ : Value,e = .returned (bQ) ∧ Kd.R (Kd.int .u8) 5 w' w.heap.size (fun _ => True) bQ r ∧ Below w.heap.size w w' := by
 have b5 := Tryz.underlying30
 have bc := aK aW
 have bd := aK aX
 clear aW aX
 have be := aK aY
 have bf := aK aZ
 clear aY aZ
 have bg := aK a0
 have bR := aK a1
 clear a0 a1
 have HB := aK (Below.refl w.heap.size w)
 unfold r33_Encode.f at h
 have H := h
 clear h
 replace H := Option.bind_eq_some_iff.mp H
 obtain ⟨a2,bS,H⟩ := H
 have A2 := aK bS
 clear bS
 replace H := Option.bind_eq_some_iff.mp H
 obtain ⟨a3,bT,H⟩ := H
 have A3 := aK bT
 clear bT
 replace H := Option.bind_eq_some_iff.mp H
 obtain ⟨a4,bU,H⟩ := H
 have A4 := aK bU
 clear bU
 replace H := Option.bind_eq_some_iff.mp H
 obtain ⟨a5,bV,H⟩ := H
 have A5 := aK bV
 clear bV
 replace H := Option.bind_eq_some_iff.mp H
 obtain ⟨a6,bW,H⟩ := H
 have A6 := aK bW
 clear bW
 replace H := Option.bind_eq_some_iff.mp H
 obtain ⟨bh,bX,H⟩ := H
 have A7 := aK bX
 clear bX
 have H' := aK H
 clear H
 go_enter Tryz.func13,Tryz.ntmps13
 try go_wp2_with (first|((with_reducible refine gate_dst (N := 1) rfl ?_);refine box_event ?hg (N := 1) ?hd (cs := #[.int .i64 ap,.int .i64 aq,.int .i64 ar,.slice av ak.length aw,.slice ax al.length ay,.slice aD ah.length aE]) (t := 30) ?hr ?_;(case hd => rfl);(case hg => rfl);(case hr => first|(go_simp;done)|(go_simp;rfl));intro ae hg w8 hbox hb;have aa := aK (hbox);have bi := aK ((by rw [hg];exact (below_size (bM HB.out)) : w.heap.size ≤ ae));have bY := Ge.mk bi.out;have bj := aK ((by rw [hg];exact (below_size (bM HB.out)) : w.heap.size ≤ ae));have bZ := Ge.mk bj.out;replace HB := aK (below_step (bM HB.out) hb);clear hb hbox hg))
 have an := aK (blk_drew aa.out)
 have ao := aK (below_drew1 HB.out)
 clear aa
 clear HB
 have aa := an
 have HB := ao
 clear an ao
 refine start_ (n := 10) (S := fun w' => w'.cell? ⟨ae,0,none⟩ = some (.int .i64 ap) ∧ w'.cell? ⟨ae,1,none⟩ = some (.int .i64 aq) ∧ w'.cell? ⟨ae,2,none⟩ = some (.int .i64 ar) ∧ w'.cell? ⟨ae,3,none⟩ = some (.slice av ak.length aw) ∧ w'.cell? ⟨ae,4,none⟩ = some (.slice ax al.length ay) ∧ w'.cell? ⟨ae,5,none⟩ = some (.slice aD ah.length aE)) (ds := []) (bA 10 0) (by kernel_rfl) rfl rfl ⟨(blk_cell aa.out 0).trans rfl,(blk_cell aa.out 1).trans rfl,(blk_cell aa.out 2).trans rfl,(blk_cell aa.out 3).trans rfl,(blk_cell aa.out 4).trans rfl,(blk_cell aa.out 5).trans rfl⟩ (fun hHeld => ?_);refine with_tabW r33_Encode.tab1 r33_Encode.bits1 (fun HT_ HW_ => ?_)
 generalize w8.drew = w9 at aa HB hHeld ⊢
 refine pure_ (i := 0) (N := some 5) (v := ?_) (a' := ?_) (bA 10 1) rfl rfl (any_of HT_.out (by kernel_rfl)) (fun _ _ _ h => h) (Or.inl ⟨by rfl,?_⟩) ?_ ?_
 rotate_left
 ·intro w'
  go_simp
  with_reducible rfl
 rotate_left
 ·simp only [Act.put,z1_,z2_,z3_,i64_w,i32_w]
  rfl
 refine pure_ (i := 3) (N := some 8) (v := ?_) (a' := ?_) (bA 10 9) rfl rfl (any_of HT_.out (by kernel_rfl)) (fun _ _ _ h => h) (Or.inl ⟨by rfl,?_⟩) ?_ ?_
 rotate_left
 ·intro w'
  go_simp
  with_reducible rfl
 rotate_left
 ·simp only [Act.put,z1_,z2_,z3_,i64_w,i32_w]
  rfl
 refine pure_ (i := 6) (N := some 11) (v := ?_) (a' := ?_) (bA 10 73) rfl rfl (any_of HT_.out (by kernel_rfl)) (fun _ _ _ h => h) (Or.inl ⟨by rfl,?_⟩) ?_ ?_
 rotate_left
 ·intro w'
  go_simp
  with_reducible rfl
 rotate_left
 ·simp only [Act.put,z1_,z2_,z3_,i64_w,i32_w]
  rfl
 refine take_ (i := 1) (N := some 6) (v := ?_) (a' := ?_) (bA 10 75) rfl rfl (take_ofW HT_.out HW_.out (by kernel_rfl)) (fun _ _ _ h => h) (Or.inl ⟨by rfl,?_⟩) hHeld ?_ ?_
 rotate_left
 ·rintro w' ⟨s0,s1,s2,s3,s4,s5⟩
  go_simp
  with_reducible rfl
 rotate_left
 ·simp only [Act.put,z1_,z2_,z3_,i64_w,i32_w]
  rfl
 refine take_ (i := 4) (N := some 9) (v := ?_) (a' := ?_) (bA 10 91) rfl rfl (take_ofW HT_.out HW_.out (by kernel_rfl)) (fun _ _ _ h => h) (Or.inl ⟨by rfl,?_⟩) hHeld ?_ ?_
 rotate_left
 ·rintro w' ⟨s0,s1,s2,s3,s4,s5⟩
  go_simp
  with_reducible rfl
 rotate_left
 ·simp only [Act.put,z1_,z2_,z3_,i64_w,i32_w]
  rfl
 refine take_ (i := 7) (N := some 12) (v := ?_) (a' := ?_) (bA 10 219) rfl rfl (take_ofW HT_.out HW_.out (by kernel_rfl)) (fun _ _ _ h => h) (Or.inl ⟨by rfl,?_⟩) hHeld ?_ ?_
 rotate_left
 ·rintro w' ⟨s0,s1,s2,s3,s4,s5⟩
  go_simp
  with_reducible rfl
 rotate_left
 ·simp only [Act.put,z1_,z2_,z3_,i64_w,i32_w]
  rfl
 refine one_ (i := 2) (N := some 7) (bA 10 223) rfl rfl (one_of HT_.out (by kernel_rfl)) (by decide) (fun K hK => ?_)
 refine goes_ Tryz.func44 (by kernel_rfl) rfl #[.slice none 0 0,.int .i64 ap] (by rfl) rfl rfl (by (try simp only [z4_,z5_,z6_]);first|done|rfl|(simp only [z7_,z8_];rfl)) ?_
 refine (r03_Put.calls k _ _ ([] : List Int) ap a2 _ ?af ?ag A2.out).mono ?_
 (case af => exact Kd.C_nil _ _)
 (case ag => exact Nat.le_refl _)
 rintro e cf ⟨b6,rfl,ai,hb⟩
 refine ⟨_,rfl,?_⟩
 have an := aK (Kd.R_lower ai (below_size (bG HB.out)))
 have ao := aK (blk_below (kM aa.out) hb)
 have au := aK (below_step (bG HB.out) hb)
 clear aa
 clear HB
 have ab := an
 have aa := ao
 have HB := au
 clear an ao au
 (try clear hb)
 (try clear hk)
 (try clear ai)
 obtain ⟨bx,bz,bk⟩ := Kd.R_slice ab.out
 (first|subst bk|(injection bk with f1_ f2_ f3_;have a7 := f1_.symm;have a8 := f3_.symm;clear f1_ f2_ f3_;subst a7;subst a8))
 refine hK.out _ _ ⟨(blk_cell aa.out 0).trans rfl,(blk_cell aa.out 1).trans rfl,(blk_cell aa.out 2).trans rfl,(blk_cell aa.out 3).trans rfl,(blk_cell aa.out 4).trans rfl,(blk_cell aa.out 5).trans rfl⟩ (fun hHeld => ?_)
 clear hK K
 refine norm_ (a' := ?_) ?_ ?_
 rotate_left
 ·show Act.put _ (some 7) _ = _
  simp only [Act.put,z1_,z2_,z3_,i64_w,i32_w]
  rfl
 refine one_ (i := 5) (N := some 10) (bA 10 255) rfl rfl (one_of HT_.out (by kernel_rfl)) (by decide) (fun K hK => ?_)
 refine goes_ Tryz.func44 (by kernel_rfl) rfl #[.slice bx a2.length bz,.int .i64 aq] (by rfl) rfl rfl (by (try simp only [z4_,z5_,z6_]);first|done|rfl|(simp only [z7_,z8_];rfl)) ?_
 with_reducible refine (r03_Put.calls k _ _ a2 aq a3 _ ?af ?ag A3.out).mono ?_
 (case af => exact cM (Kd.R_reads' ab.out).2.2)
 (case ag => exact (Kd.R_reads' ab.out).2.1)
 rintro e cg ⟨b7,rfl,ai,hb⟩
 refine ⟨_,rfl,?_⟩
 have an := aK (Kd.R_elder' (rM ab.out) (Kd.R_base ai) hb)
 have ao := aK (Kd.R_lower (Kd.R_new' ai (Kd.R_lt (rM ab.out))) (below_size (bG HB.out)))
 have au := aK (blk_below (kM aa.out) hb)
 have aA := aK (below_step (bG HB.out) hb)
 clear ab
 clear aa
 clear HB
 have ab := an
 have ac := ao
 have aa := au
 have HB := aA
 clear an ao au aA
 (try clear hb)
 (try clear hk)
 (try clear ai)
 obtain ⟨bB,bC,bm⟩ := Kd.R_slice ac.out
 (first|subst bm|(injection bm with f1_ f2_ f3_;have a7 := f1_.symm;have a8 := f3_.symm;clear f1_ f2_ f3_;subst a7;subst a8))
 refine hK.out _ _ ⟨(blk_cell aa.out 0).trans rfl,(blk_cell aa.out 1).trans rfl,(blk_cell aa.out 2).trans rfl,(blk_cell aa.out 3).trans rfl,(blk_cell aa.out 4).trans rfl,(blk_cell aa.out 5).trans rfl⟩ (fun hHeld => ?_)
 clear hK K
 refine norm_ (a' := ?_) ?_ ?_
 rotate_left
 ·show Act.put _ (some 10) _ = _
  simp only [Act.put,z1_,z2_,z3_,i64_w,i32_w]
  rfl
 refine one_ (i := 8) (N := some 13) (bA 10 511) rfl rfl (one_of HT_.out (by kernel_rfl)) (by decide) (fun K hK => ?_)
 refine goes_ Tryz.func44 (by kernel_rfl) rfl #[.slice bB a3.length bC,.int .i64 ar] (by rfl) rfl rfl (by (try simp only [z4_,z5_,z6_]);first|done|rfl|(simp only [z7_,z8_];rfl)) ?_
 with_reducible refine (r03_Put.calls k _ _ a3 ar a4 _ ?af ?ag A4.out).mono ?_
 (case af => exact cM (Kd.R_reads' ac.out).2.2)
 (case ag => exact (Kd.R_reads' ac.out).2.1)
 rintro e b8 ⟨b9,rfl,ai,hb⟩
 refine ⟨_,rfl,?_⟩
 have an := aK (Kd.R_elder' (rM ab.out) (Kd.R_base ai) hb)
 have ao := aK (Kd.R_elder' (rM ac.out) (Kd.R_base ai) hb)
 have au := aK (Kd.R_lower (Kd.R_new' (Kd.R_new' ai (Kd.R_lt (rM ab.out))) (Kd.R_lt (rM ac.out))) (below_size (bG HB.out)))
 have aA := aK (blk_below (kM aa.out) hb)
 have aF := aK (below_step (bG HB.out) hb)
 clear ab
 clear ac
 clear aa
 clear HB
 have ab := an
 have ac := ao
 have ad := au
 have aa := aA
 have HB := aF
 clear an ao au aA aF
 (try clear hb)
 (try clear hk)
 (try clear ai)
 refine hK.out _ _ ⟨(blk_cell aa.out 0).trans rfl,(blk_cell aa.out 1).trans rfl,(blk_cell aa.out 2).trans rfl,(blk_cell aa.out 3).trans rfl,(blk_cell aa.out 4).trans rfl,(blk_cell aa.out 5).trans rfl⟩ (fun hHeld => ?_)
 clear hK K
 refine norm_ (a' := ?_) ?_ ?_
 rotate_left
 ·show Act.put _ (some 13) _ = _
  simp only [Act.put,z1_,z2_,z3_,i64_w,i32_w]
  rfl
 refine pure_ (i := 9) (N := some 3) (v := ?_) (a' := ?_) (bA 10 1023) rfl rfl (any_of HT_.out (by kernel_rfl)) (fun _ _ _ h => h) (Or.inl ⟨by rfl,?_⟩) ?_ ?_
 rotate_left
 ·intro w'
  go_simp
  with_reducible rfl
 rotate_left
 ·simp only [Act.put,z1_,z2_,z3_,i64_w,i32_w]
  rfl
 refine done_ (done_of HT_.out (by kernel_rfl)) ?_
 try go_wp2
 have an := aK (Kd.R_drew ab.out)
 have ao := aK (Kd.R_drew ac.out)
 have au := aK (Kd.R_drew ad.out)
 have aA := aK (blk_drew aa.out)
 have aF := aK (below_drew1 HB.out)
 clear ab
 clear ac
 clear ad
 clear aa
 clear HB
 have ab := an
 have ac := ao
 have ad := au
 have aa := aA
 have HB := aF
 clear an ao au aA aF
 obtain ⟨bD,bE,bn⟩ := Kd.R_slice ad.out
 (first|subst bn|(injection bn with f1_ f2_ f3_;have a7 := f1_.symm;have a8 := f3_.symm;clear f1_ f2_ f3_;subst a7;subst a8))
 refine start_ (n := 8) (S := fun w' => w'.cell? ⟨ae,0,none⟩ = some (.int .i64 ap) ∧ w'.cell? ⟨ae,1,none⟩ = some (.int .i64 aq) ∧ w'.cell? ⟨ae,2,none⟩ = some (.int .i64 ar) ∧ w'.cell? ⟨ae,3,none⟩ = some (.slice av ak.length aw) ∧ w'.cell? ⟨ae,4,none⟩ = some (.slice ax al.length ay) ∧ w'.cell? ⟨ae,5,none⟩ = some (.slice aD ah.length aE)) (ds := []) (bA 8 0) (by kernel_rfl) rfl rfl ⟨(blk_cell aa.out 0).trans rfl,(blk_cell aa.out 1).trans rfl,(blk_cell aa.out 2).trans rfl,(blk_cell aa.out 3).trans rfl,(blk_cell aa.out 4).trans rfl,(blk_cell aa.out 5).trans rfl⟩ (fun hHeld => ?_);refine with_tabW r33_Encode.tab2 r33_Encode.bits2 (fun HT_ HW_ => ?_)
 generalize b8.drew = w15 at ab ac ad aa HB hHeld ⊢
 refine pure_ (i := 0) (N := some 14) (v := ?_) (a' := ?_) (bA 8 1) rfl rfl (any_of HT_.out (by kernel_rfl)) (fun _ _ _ h => h) (Or.inl ⟨by rfl,?_⟩) ?_ ?_
 rotate_left
 ·intro w'
  go_simp
  with_reducible rfl
 rotate_left
 ·simp only [Act.put,z1_,z2_,z3_,i64_w,i32_w]
  rfl
 refine pure_ (i := 1) (N := some 15) (v := ?_) (a' := ?_) (bA 8 3) rfl rfl (any_of HT_.out (by kernel_rfl)) (fun _ _ _ h => h) (Or.inl ⟨by rfl,?_⟩) ?_ ?_
 rotate_left
 ·intro w'
  go_simp
  with_reducible rfl
 rotate_left
 ·simp only [Act.put,z1_,z2_,z3_,i64_w,i32_w]
  rfl
 refine pure_ (i := 4) (N := some 18) (v := ?_) (a' := ?_) (bA 8 19) rfl rfl (any_of HT_.out (by kernel_rfl)) (fun _ _ _ h => h) (Or.inl ⟨by rfl,?_⟩) ?_ ?_
 rotate_left
 ·intro w'
  go_simp
  with_reducible rfl
 rotate_left
 ·simp only [Act.put,z1_,z2_,z3_,i64_w,i32_w]
  rfl
 refine take_ (i := 2) (N := some 16) (v := ?_) (a' := ?_) (bA 8 23) rfl rfl (take_ofW HT_.out HW_.out (by kernel_rfl)) (fun _ _ _ h => h) (Or.inl ⟨by rfl,?_⟩) hHeld ?_ ?_
 rotate_left
 ·rintro w' ⟨s0,s1,s2,s3,s4,s5⟩
  go_simp
  with_reducible rfl
 rotate_left
 ·simp only [Act.put,z1_,z2_,z3_,i64_w,i32_w]
  rfl
 refine take_ (i := 5) (N := some 19) (v := ?_) (a' := ?_) (bA 8 55) rfl rfl (take_ofW HT_.out HW_.out (by kernel_rfl)) (fun _ _ _ h => h) (Or.inl ⟨by rfl,?_⟩) hHeld ?_ ?_
 rotate_left
 ·rintro w' ⟨s0,s1,s2,s3,s4,s5⟩
  go_simp
  with_reducible rfl
 rotate_left
 ·simp only [Act.put,z1_,z2_,z3_,i64_w,i32_w]
  rfl
 refine one_ (i := 3) (N := some 17) (bA 8 63) rfl rfl (one_of HT_.out (by kernel_rfl)) (by decide) (fun K hK => ?_)
 refine goes_ Tryz.func45 (by kernel_rfl) rfl #[.slice bD a4.length bE,.slice av ak.length aw] (by rfl) rfl rfl (by (try simp only [z4_,z5_,z6_]);first|done|rfl|(simp only [z7_,z8_];rfl)) ?_
 with_reducible refine (r33_list.calls k _ _ a4 _ _ ak a5 _ ?af ?ag ?aG ?aH A5.out).mono ?_
 (case af => exact cM (Kd.R_reads' ad.out).2.2)
 (case ag => exact (Kd.R_reads' ad.out).2.1)
 (case aG => exact cM (Kd.C_below bc.out HB.out))
 (case aH => exact bd.out)
 rintro e ch ⟨ca,rfl,ai,hb⟩
 refine ⟨_,rfl,?_⟩
 have an := aK (Kd.R_elder' (rM ab.out) (Kd.R_base ai) hb)
 have ao := aK (Kd.R_elder' (rM ac.out) (Kd.R_base ai) hb)
 have au := aK (Kd.R_elder' (rM ad.out) (Kd.R_base ai) hb)
 have aA := aK (Kd.R_lower (Kd.R_new' (Kd.R_new' (Kd.R_new' ai (Kd.R_lt (rM ab.out))) (Kd.R_lt (rM ac.out))) (Kd.R_lt (rM ad.out))) (below_size (bG HB.out)))
 have aF := aK (blk_below (kM aa.out) hb)
 have bo := aK (below_step (bG HB.out) hb)
 clear ab
 clear ac
 clear ad
 clear aa
 clear HB
 have ab := an
 have ac := ao
 have ad := au
 have aj := aA
 have aa := aF
 have HB := bo
 clear an ao au aA aF bo
 (try clear hb)
 (try clear hk)
 (try clear ai)
 obtain ⟨bF,bH,bp⟩ := Kd.R_slice aj.out
 (first|subst bp|(injection bp with f1_ f2_ f3_;have a7 := f1_.symm;have a8 := f3_.symm;clear f1_ f2_ f3_;subst a7;subst a8))
 refine hK.out _ _ ⟨(blk_cell aa.out 0).trans rfl,(blk_cell aa.out 1).trans rfl,(blk_cell aa.out 2).trans rfl,(blk_cell aa.out 3).trans rfl,(blk_cell aa.out 4).trans rfl,(blk_cell aa.out 5).trans rfl⟩ (fun hHeld => ?_)
 clear hK K
 refine norm_ (a' := ?_) ?_ ?_
 rotate_left
 ·show Act.put _ (some 17) _ = _
  simp only [Act.put,z1_,z2_,z3_,i64_w,i32_w]
  rfl
 refine one_ (i := 6) (N := some 20) (bA 8 127) rfl rfl (one_of HT_.out (by kernel_rfl)) (by decide) (fun K hK => ?_)
 refine goes_ Tryz.func45 (by kernel_rfl) rfl #[.slice bF a5.length bH,.slice ax al.length ay] (by rfl) rfl rfl (by (try simp only [z4_,z5_,z6_]);first|done|rfl|(simp only [z7_,z8_];rfl)) ?_
 with_reducible refine (r33_list.calls k _ _ a5 _ _ al a6 _ ?af ?ag ?aG ?aH A6.out).mono ?_
 (case af => exact cM (Kd.R_reads' aj.out).2.2)
 (case ag => exact (Kd.R_reads' aj.out).2.1)
 (case aG => exact cM (Kd.C_below be.out HB.out))
 (case aH => exact bf.out)
 rintro e ci ⟨cb,rfl,ai,hb⟩
 refine ⟨_,rfl,?_⟩
 have an := aK (Kd.R_elder' (rM ab.out) (Kd.R_base ai) hb)
 have ao := aK (Kd.R_elder' (rM ac.out) (Kd.R_base ai) hb)
 have au := aK (Kd.R_elder' (rM ad.out) (Kd.R_base ai) hb)
 have aA := aK (Kd.R_elder' (rM aj.out) (Kd.R_base ai) hb)
 have aF := aK (Kd.R_lower (Kd.R_new' (Kd.R_new' (Kd.R_new' (Kd.R_new' ai (Kd.R_lt (rM ab.out))) (Kd.R_lt (rM ac.out))) (Kd.R_lt (rM ad.out))) (Kd.R_lt (rM aj.out))) (below_size (bG HB.out)))
 have bo := aK (blk_below (kM aa.out) hb)
 have b0 := aK (below_step (bG HB.out) hb)
 clear ab
 clear ac
 clear ad
 clear aj
 clear aa
 clear HB
 have ab := an
 have ac := ao
 have ad := au
 have aj := aA
 have aB := aF
 have aa := bo
 have HB := b0
 clear an ao au aA aF bo b0
 (try clear hb)
 (try clear hk)
 (try clear ai)
 refine hK.out _ _ ⟨(blk_cell aa.out 0).trans rfl,(blk_cell aa.out 1).trans rfl,(blk_cell aa.out 2).trans rfl,(blk_cell aa.out 3).trans rfl,(blk_cell aa.out 4).trans rfl,(blk_cell aa.out 5).trans rfl⟩ (fun hHeld => ?_)
 clear hK K
 refine norm_ (a' := ?_) ?_ ?_
 rotate_left
 ·show Act.put _ (some 20) _ = _
  simp only [Act.put,z1_,z2_,z3_,i64_w,i32_w]
  rfl
 refine pure_ (i := 7) (N := some 3) (v := ?_) (a' := ?_) (bA 8 255) rfl rfl (any_of HT_.out (by kernel_rfl)) (fun _ _ _ h => h) (Or.inl ⟨by rfl,?_⟩) ?_ ?_
 rotate_left
 ·intro w'
  go_simp
  with_reducible rfl
 rotate_left
 ·simp only [Act.put,z1_,z2_,z3_,i64_w,i32_w]
  rfl
 refine done_ (done_of HT_.out (by kernel_rfl)) ?_
 obtain ⟨aJ,aL,aM,aN,aO,aP,aQ,aR,aS,aT,aU,aV⟩ := bk6_ aa.out
 obtain ⟨bI,bJ,bK⟩ := Kd.R_slice aB.out
 subst bK
 try go_wp2_with (first|((with_reducible refine gate_callee (f := 44) rfl ?_);refine gL 25 Tryz.func44 #[.slice bI a6.length bJ,.int .i64 (ah.length : Int)] ?_;(with_reducible refine (r03_Put.calls k _ _ a6 (ah.length : Int) bh _ ?af ?ag A7.out).mono ?_);(case af => exact cM (Kd.R_reads' aB.out).2.2);(case ag => exact (Kd.R_reads' aB.out).2.1);rintro e cj ⟨cc,rfl,ai,hb⟩;refine ⟨_,rfl,?_⟩;have bq := aK (Kd.R_lower (Kd.R_new' (Kd.R_new' (Kd.R_new' (Kd.R_new' (Kd.R_new' ai (Kd.R_lt (rM ab.out))) (Kd.R_lt (rM ac.out))) (Kd.R_lt (rM ad.out))) (Kd.R_lt (rM aj.out))) (Kd.R_lt (rM aB.out))) (below_size (bG HB.out)));replace aa := aK (blk_below (kM aa.out) hb);replace HB := aK (below_step (bG HB.out) hb);(try clear hb);(try clear hk);(try clear ai)))
 go_loopg [3,4] k (fun kq v3 v4 w' => ∃ (aI : List Int) (am : Int),v4 = .int .i64 am ∧ Aside0 (r33_Encode.l0 kq aI am ap aq ar ak al ah = some r) ∧ Aside0 (kq ≤ k) ∧ Aside0 (Kd.R (Kd.int .u8) 5 w' w.heap.size (fun _ => True) v3 aI) ∧ Aside0 (w'.heap[ae]? = some (.cells #[.int .i64 ap,.int .i64 aq,.int .i64 ar,(.slice av ak.length aw),(.slice ax al.length ay),(.slice aD ah.length aE)] 30 (0,0))) ∧ Aside0 (Below w.heap.size w w'))
 case atStart => exact ⟨(bh),(0),(by first|rfl|(simp;done)|(simp [*];done)),H',⟨Nat.le_refl _⟩,⟨rM (Kd.R_mono bq.out (fun _ hk => trivial))⟩,⟨kM aa.out⟩,⟨bG HB.out⟩⟩
 case round =>
  clear H'
  try clear p2
  try clear aJ
  try clear aL
  try clear aM
  try clear aN
  try clear aO
  try clear aP
  try clear aQ
  try clear aR
  try clear aS
  try clear aT
  try clear aU
  try clear aV
  obtain ⟨aI,am,rfl,HA,b1,az,aa,HB⟩ := hrel
  cases gk with
 |zero => exact absurd HA.out (by simp [r33_Encode.l0])
 |succ k1 =>
   have H := HA.out
   clear HA
   simp only [r33_Encode.l0] at H
   by_cases bb : am < (ah.length : Int)
   ·rw [if_pos bb] at H
    have br := decide_eq_true bb
    clear bb
    obtain ⟨b2,H⟩ := iS H
    have b3 := decide_eq_true b2
    clear b2
    replace H := Option.bind_eq_some_iff.mp H
    obtain ⟨bs,bu,H⟩ := H
    have cd := aK bu
    clear bu
    have H' := aK H
    clear H
    obtain ⟨_,_,_,_,_,_,_,_,_,_,_,_⟩ := bk6_ aa.out
    have a9 : 0 ≤ (am : Int) := dA
    have ba : am < (ah.length : Int) := dA
    obtain ⟨b4,bL,aC⟩ := Kd.at_string bg.out am a9 ba
    cases bL
    replace aC := xM HB aC
    replace a9 := eq_true a9
    replace ba := eq_true ba
    obtain ⟨bN,bO,bP⟩ := Kd.R_slice az.out
    subst bP
    go_wp2_with (first|((with_reducible refine gate_callee (f := 46) rfl ?_);refine gL 39 Tryz.func46 #[.slice bN aI.length bO,.string (rdOf ByteArray.empty ah am)] ?_;(with_reducible refine (r03_PutString.calls k1 _ _ aI (rdOf ByteArray.empty ah am) bs _ ?af ?ag cd.out).mono ?_);(case af => exact cM (Kd.R_reads' az.out).2.2);(case ag => exact (Kd.R_reads' az.out).2.1);rintro e ck ⟨ce,rfl,ai,hb⟩;refine ⟨_,rfl,?_⟩;have bv := aK (Kd.R_lower (Kd.R_new' ai (Kd.R_lt (rM az.out))) (below_size (bG HB.out)));replace az := aK (Kd.R_elder' (rM az.out) (Kd.R_base ai) hb);replace aa := aK (blk_below (kM aa.out) hb);replace HB := aK (below_step (bG HB.out) hb);(try clear hb);(try clear hk);(try clear ai)))
    go_roundg k1
    case measure => have := b1.out;omega
    case rel => exact ⟨(bs),(wrap64 (am + 1)),(by first|rfl|(simp;done)|(simp [*];done)),H',⟨by have := b1.out;omega⟩,⟨rM (Kd.R_mono bv.out (fun _ hk => trivial))⟩,⟨kM aa.out⟩,⟨bG HB.out⟩⟩
   ·rw [if_neg bb] at H
    have br := decide_eq_false bb
    clear bb
    obtain rfl := Option.some.inj H
    obtain ⟨_,_,_,_,_,_,_,_,_,_,_,_⟩ := bk6_ aa.out
    go_wp2
    go_ret
    exact ⟨_,by first|rfl|(simp [errW_none,errW_some] <;> rfl)|(simp [*,errW_none,errW_some] <;> rfl),rM az.out,bG HB.out⟩
end Go.Proofs.YtmgliocboeifdaaGreatDoor.F
