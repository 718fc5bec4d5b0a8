import Derived.Test.YtihfpmociffpeaaOx0
import Derived.Test.YtihfpmociffpeaaOx1
namespace Go.Proofs.Ytihfpmociffpeaa.O
open Go.RowKit Go.Proofs.YtihfpmociffpeaaW.PrintWords Go.Proofs.YtihfpmociffpeaaW.PrintLast Go.Proofs.YtihfpmociffpeaaW.PrintMore
set_option maxHeartbeats 4000000
set_option maxRecDepth 100000
attribute [local go_sem] max2_int min2_int max_two min_two max_three min_three max_four min_four
set_option linter.unusedVariables false
set_option linter.unusedSimpArgs false

/-! ### varint_PutList: function 23 -/
mutual
def varint_PutList.l0 : Nat → List Int → List Int → Int → Int → Option (List Int × Int)
|0,_,_,_,_ => none
|k + 1,x0,x1,ab,aa => if aa < ab then (if 0 ≤ aa then (if aa < (x1.length : Int) then (if (rd x1 aa) < 0 then (some (([] : List Int),1)) else (if aa > 0 then (if 0 ≤ (wrap64 (aa - 1)) then (if (wrap64 (aa - 1)) < (x1.length : Int) then (if (rd x1 (wrap64 (aa - 1))) ≥ (rd x1 aa) then (some (([] : List Int),1)) else (varint_PutList.l0 k x0 x1 ab (wrap64 (aa + 1)))) else (none)) else (none)) else (varint_PutList.l0 k x0 x1 ab (wrap64 (aa + 1))))) else (none)) else (none)) else ((varint_Put.f x0 (x1.length : Int)).bind fun ac => (varint_PutList.l1 k x1 ac 0 (x1.length : Int) 0))
def varint_PutList.l1 : Nat → List Int → List Int → Int → Int → Int → Option (List Int × Int)
|0,_,_,_,_,_ => none
|k + 1,x1,x7,x8,ac,aa => if aa < ac then (if 0 ≤ aa then (if aa < (x1.length : Int) then ((varint_Put.f x7 (wrap64 ((rd x1 aa) - x8))).bind fun ab => (varint_PutList.l1 k x1 ab (rd x1 aa) ac (wrap64 (aa + 1)))) else (none)) else (none)) else (some (x7,0))
end
def varint_PutList.f (k : Nat) (l0 : List Int) (l1 : List Int) : Option (List Int × Int) := varint_PutList.l0 k l0 l1 (l1.length : Int) 0
theorem varint_PutList.mono_l : ∀ k, (∀ y0 y1 y2 y3, LeO (varint_PutList.l0 k y0 y1 y2 y3) (varint_PutList.l0 (k + 1) y0 y1 y2 y3)) ∧ (∀ y0 y1 y2 y3 y4, LeO (varint_PutList.l1 k y0 y1 y2 y3 y4) (varint_PutList.l1 (k + 1) y0 y1 y2 y3 y4))
|0 => ⟨fun _ _ _ _ r h => by simp [varint_PutList.l0] at h,fun _ _ _ _ _ r h => by simp [varint_PutList.l1] at h⟩
|k + 1 => by
  obtain ⟨ih0,ih1⟩ := varint_PutList.mono_l k
  refine ⟨?_,?_⟩
  ·intro y0 y1 y2 y3
   unfold varint_PutList.l0
   repeat' (with_reducible first|exact ih0 _ _ _ _|exact ih1 _ _ _ _ _|exact LeO.refl _|exact LeO.none _|refine LeO.ite ?_ ?_|refine LeO.bind ?_ (fun _ => ?_))
  ·intro y0 y1 y2 y3 y4
   unfold varint_PutList.l1
   repeat' (with_reducible first|exact ih1 _ _ _ _ _|exact LeO.refl _|exact LeO.none _|refine LeO.ite ?_ ?_|refine LeO.bind ?_ (fun _ => ?_))
theorem varint_PutList.mono : ∀ a0 a1 k, LeO (varint_PutList.f k a0 a1) (varint_PutList.f (k + 1) a0 a1) := by
 intro a0 a1 k
 obtain ⟨ih0,ih1⟩ := varint_PutList.mono_l k
 unfold varint_PutList.f
 repeat' (with_reducible first|exact ih0 _ _ _ _|exact ih1 _ _ _ _ _|exact LeO.refl _|exact LeO.none _|refine LeO.ite ?_ ?_|refine LeO.bind ?_ (fun _ => ?_))
theorem varint_PutList.calls (k : Nat) (A0 : Option Addr) (c0 : Nat) (l0 : List Int) (A1 : Option Addr) (c1 : Nat) (l1 : List Int) (r1 : List Int) (r2 : Int) (w : World) (a8 : Kd.C (Kd.int .u8) w A0 l0.length l0) (a9 : l0.length ≤ c0) (ba : Kd.C (Kd.int .i64) w A1 l1.length l1) (bb : l1.length ≤ c1) (h : varint_PutList.f k l0 l1 = some (r1, r2)) :
  Calls Try.prog 23 #[.slice A0 l0.length c0,.slice A1 l1.length c1] w fun e w' => ∃ bc : Value,e = .returned (.tuple #[bc,.int .i64 r2]) ∧ Kd.R (Kd.int .u8) 5 w' w.heap.size (fun _ => True) bc r1 ∧ Below w.heap.size w w' := by
 have a0 := aK a8
 have a1 := aK a9
 clear a8 a9
 have aA := aK ba
 have bu := aK bb
 clear ba bb
 have HB := aK (Below.refl w.heap.size w)
 have H : (varint_PutList.l0 k l0 l1 (l1.length : Int) 0) = some (r1,r2) := h
 clear h
 have H' := aK H
 clear H
 go_enter Try.func23,Try.ntmps23
 go_wp2
 repeat (go_quiet (fail);try go_wp2)
 go_loopg [12] k (fun kq bm w' => ∃ (aa : Int),bm = .int .i64 aa ∧ Aside0 (varint_PutList.l0 kq l0 l1 (l1.length : Int) aa = some (r1,r2)) ∧ Aside0 (kq ≤ k) ∧ Aside0 (Below w.heap.size w w'))
 case atStart => exact ⟨(0),(by first|rfl|(simp;done)|(simp [*];done)),H',⟨Nat.le_refl _⟩,⟨bM HB.out⟩⟩
 case round =>
  clear H'
  try clear p2
  obtain ⟨aa,rfl,HA,aQ,HB⟩ := hrel
  cases gk with
 |zero => exact absurd HA.out (by simp [varint_PutList.l0])
 |succ k1 =>
   have H := HA.out
   clear HA
   simp only [varint_PutList.l0] at H
   by_cases c3 : aa < (l1.length : Int)
   ·rw [if_pos c3] at H
    have aT := decide_eq_true c3
    clear c3
    obtain ⟨c4,H⟩ := iS H
    have bn := decide_eq_true c4
    clear c4
    obtain ⟨c5,H⟩ := iS H
    have bo := decide_eq_true c5
    clear c5
    by_cases c6 : (rd l1 aa) < 0
    ·rw [if_pos c6] at H
     have a2 := decide_eq_true c6
     clear c6
     simp only [Option.some.injEq,Prod.mk.injEq] at H
     obtain ⟨rfl,rfl⟩ := H
     have aj : 0 ≤ (aa : Int) := dA
     have ak : aa < (l1.length : Int) := dA
     obtain ⟨al,aw,ac⟩ := Kd.at_int aA.out aa aj ak
     cases aw
     replace ac := xM HB ac
     replace aj := eq_true aj
     replace ak := eq_true ak
     go_wp2
     repeat (go_quiet (fail);try go_wp2)
     go_ret2
     exact ⟨_,by first|rfl|(simp [errW_none,errW_some] <;> rfl)|(simp [*,errW_none,errW_some] <;> rfl),by first|exact Kd.R_nil _ _ _ _ _|exact Kd.N_nil _ _ _ _ _|exact Kd.V_nil _ _ _ _ _|exact Kd.Q_nil _ _ _ _ _|exact Kd.S_nil _ _ _ _ _,bM HB.out⟩
    ·rw [if_neg c6] at H
     have a2 := decide_eq_false c6
     clear c6
     by_cases c7 : aa > 0
     ·rw [if_pos c7] at H
      have a3 := decide_eq_true c7
      clear c7
      obtain ⟨aB,aI⟩ : ∃ j_ : Int,(wrap64 (aa - 1)) = j_ := ⟨_,rfl⟩
      replace H : (if 0 ≤ (aB) then (if (aB) < (l1.length : Int) then (if (rd l1 (aB)) ≥ (rd l1 aa) then (some (([] : List Int),1)) else (varint_PutList.l0 k1 l0 l1 (l1.length : Int) (wrap64 (aa + 1)))) else (none)) else (none)) = some (r1,r2) := by first|(rw [aI] at H;exact H)|(simp only [aI] at H ⊢;exact H)
      have bd : (IntKind.i64.wrap (aa - 1)) = aB := (i64_w _).trans aI
      obtain ⟨c9,H⟩ := iS H
      have bp := decide_eq_true c9
      clear c9
      obtain ⟨c10,H⟩ := iS H
      have be := decide_eq_true c10
      clear c10
      by_cases aR : (rd l1 (aB)) ≥ (rd l1 aa)
      ·rw [if_pos aR] at H
       have aU := decide_eq_true aR
       clear aR
       simp only [Option.some.injEq,Prod.mk.injEq] at H
       obtain ⟨rfl,rfl⟩ := H
       have aj : 0 ≤ (aa : Int) := dA
       have ak : aa < (l1.length : Int) := dA
       obtain ⟨al,aw,ac⟩ := Kd.at_int aA.out aa aj ak
       cases aw
       replace ac := xM HB ac
       replace aj := eq_true aj
       replace ak := eq_true ak
       have ap : 0 ≤ ((aB) : Int) := dA
       have aq : (aB) < (l1.length : Int) := dA
       obtain ⟨aC,aM,ah⟩ := Kd.at_int aA.out (aB) ap aq
       obtain rfl : al = aC := (by injection aM)
       replace ah := xM HB ah
       replace ap := eq_true ap
       replace aq := eq_true aq
       have ar : 0 ≤ (aa : Int) := dA
       have au : aa < (l1.length : Int) := dA
       obtain ⟨aD,aN,ai⟩ := Kd.at_int aA.out aa ar au
       obtain rfl : al = aD := (by injection aN)
       replace ai := xM HB ai
       replace ar := eq_true ar
       replace au := eq_true au
       go_wp2
       repeat (go_quiet (fail);try go_wp2)
       go_ret2
       exact ⟨_,by first|rfl|(simp [errW_none,errW_some] <;> rfl)|(simp only [← aI];first|rfl|(simp [errW_none,errW_some] <;> rfl))|(simp [*,errW_none,errW_some] <;> rfl),by first|exact Kd.R_nil _ _ _ _ _|exact Kd.N_nil _ _ _ _ _|exact Kd.V_nil _ _ _ _ _|exact Kd.Q_nil _ _ _ _ _|exact Kd.S_nil _ _ _ _ _,bM HB.out⟩
      ·rw [if_neg aR] at H
       have aU := decide_eq_false aR
       clear aR
       have H' := aK H
       clear H
       have aj : 0 ≤ (aa : Int) := dA
       have ak : aa < (l1.length : Int) := dA
       obtain ⟨al,aw,ac⟩ := Kd.at_int aA.out aa aj ak
       cases aw
       replace ac := xM HB ac
       replace aj := eq_true aj
       replace ak := eq_true ak
       have ap : 0 ≤ ((aB) : Int) := dA
       have aq : (aB) < (l1.length : Int) := dA
       obtain ⟨aC,aM,ah⟩ := Kd.at_int aA.out (aB) ap aq
       obtain rfl : al = aC := (by injection aM)
       replace ah := xM HB ah
       replace ap := eq_true ap
       replace aq := eq_true aq
       have ar : 0 ≤ (aa : Int) := dA
       have au : aa < (l1.length : Int) := dA
       obtain ⟨aD,aN,ai⟩ := Kd.at_int aA.out aa ar au
       obtain rfl : al = aD := (by injection aN)
       replace ai := xM HB ai
       replace ar := eq_true ar
       replace au := eq_true au
       go_wp2
       repeat (go_quiet (fail);try go_wp2)
       go_roundg k1
       case measure => have := aQ.out;omega
       case rel => exact ⟨(wrap64 (aa + 1)),(by first|rfl|(simp;done)|(simp [*];done)),H',⟨by have := aQ.out;omega⟩,⟨bM HB.out⟩⟩
     ·rw [if_neg c7] at H
      have a3 := decide_eq_false c7
      clear c7
      have H' := aK H
      clear H
      have aj : 0 ≤ (aa : Int) := dA
      have ak : aa < (l1.length : Int) := dA
      obtain ⟨al,aw,ac⟩ := Kd.at_int aA.out aa aj ak
      cases aw
      replace ac := xM HB ac
      replace aj := eq_true aj
      replace ak := eq_true ak
      go_wp2
      repeat (go_quiet (fail);try go_wp2)
      go_roundg k1
      case measure => have := aQ.out;omega
      case rel => exact ⟨(wrap64 (aa + 1)),(by first|rfl|(simp;done)|(simp [*];done)),H',⟨by have := aQ.out;omega⟩,⟨bM HB.out⟩⟩
   ·rw [if_neg c3] at H
    have aT := decide_eq_false c3
    clear c3
    replace H := Option.bind_eq_some_iff.mp H
    obtain ⟨aJ,aV,H⟩ := H
    have a4 := aK aV
    clear aV
    have H' := aK H
    clear H
    go_wp2_with (first|(go_at_call 17;(with_reducible refine (varint_Put.calls _ _ l0 (l1.length : Int) aJ _ ?ae ?af a4.out).mono ?_);(case ae => exact cM (Kd.C_below a0.out HB.out));(case af => exact a1.out);rintro e bf ⟨aW,rfl,ao,hb⟩;have aE := aK (Kd.R_lower ao (below_size (bM HB.out)));replace HB := aK (below_step (bM HB.out) hb);(try clear hb);(try clear hk);(try clear ao)))
    repeat (go_quiet (first|(go_at_call 17;(with_reducible refine (varint_Put.calls _ _ l0 (l1.length : Int) aJ _ ?ae ?af a4.out).mono ?_);(case ae => exact cM (Kd.C_below a0.out HB.out));(case af => exact a1.out);rintro e bf ⟨aW,rfl,ao,hb⟩;have aE := aK (Kd.R_lower ao (below_size (bM HB.out)));replace HB := aK (below_step (bM HB.out) hb);(try clear hb);(try clear hk);(try clear ao)));try go_wp2_with (first|(go_at_call 17;(with_reducible refine (varint_Put.calls _ _ l0 (l1.length : Int) aJ _ ?ae ?af a4.out).mono ?_);(case ae => exact cM (Kd.C_below a0.out HB.out));(case af => exact a1.out);rintro e bf ⟨aW,rfl,ao,hb⟩;have aE := aK (Kd.R_lower ao (below_size (bM HB.out)));replace HB := aK (below_step (bM HB.out) hb);(try clear hb);(try clear hk);(try clear ao))))
    go_loopg [7,8,43] k1 (fun kq v7 v8 bq w' => ∃ (ay : List Int) (az : Int) (ab : Int),v8 = .int .i64 az ∧ bq = .int .i64 ab ∧ Aside0 (varint_PutList.l1 kq l1 ay az (l1.length : Int) ab = some (r1,r2)) ∧ Aside0 (kq ≤ k1) ∧ Aside0 (Kd.R (Kd.int .u8) 5 w' w.heap.size (fun _ => True) v7 ay) ∧ Aside0 (Below w.heap.size w w'))
    case atStart => exact ⟨(aJ),(0),(0),(by first|rfl|(simp;done)|(simp [*];done)),(by first|rfl|(simp;done)|(simp [*];done)),H',⟨Nat.le_refl _⟩,⟨rM aE.out⟩,⟨bM HB.out⟩⟩
    case round =>
     clear H'
     try clear p1
     try clear q1
     try clear hx1
     try clear p2
     try clear c3
     try clear aT
     try clear p6
     try clear p11
     try clear q11
     try clear hx11
     try clear ac
     try clear ah
     try clear ai
     try clear aj
     try clear ap
     try clear ar
     try clear p2
     try clear ak
     try clear aq
     try clear au
     obtain ⟨ay,az,ab,rfl,rfl,HA,bg,ag,HB⟩ := hrel
     cases gk with
    |zero => exact absurd HA.out (by simp [varint_PutList.l1])
    |succ k2 =>
      have H := HA.out
      clear HA
      simp only [varint_PutList.l1] at H
      by_cases aS : ab < (l1.length : Int)
      ·rw [if_pos aS] at H
       have aX := decide_eq_true aS
       clear aS
       obtain ⟨bh,H⟩ := iS H
       have bi := decide_eq_true bh
       clear bh
       obtain ⟨bj,H⟩ := iS H
       have bk := decide_eq_true bj
       clear bj
       replace H := Option.bind_eq_some_iff.mp H
       obtain ⟨aL,aY,H⟩ := H
       have a5 := aK aY
       clear aY
       have H' := aK H
       clear H
       have aO : 0 ≤ (ab : Int) := dA
       have aP : ab < (l1.length : Int) := dA
       obtain ⟨aF,a6,ax⟩ := Kd.at_int aA.out ab aO aP
       cases a6
       replace ax := xM HB ax
       replace aO := eq_true aO
       replace aP := eq_true aP
       obtain ⟨br,bs,a7⟩ := Kd.R_slice ag.out
       subst a7
       go_wp2_with (first|(go_at_call 17;(with_reducible refine (varint_Put.calls _ _ ay (wrap64 ((rd l1 ab) - az)) aL _ ?ae ?af a5.out).mono ?_);(case ae => exact cM (Kd.R_reads' ag.out).2.2);(case af => exact (Kd.R_reads' ag.out).2.1);rintro e bl ⟨aZ,rfl,ao,hb⟩;have aG := aK (Kd.R_lower (Kd.R_new' ao (Kd.R_lt (rM ag.out))) (below_size (bM HB.out)));replace ag := aK (Kd.R_elder' (rM ag.out) (Kd.R_base ao) hb);replace HB := aK (below_step (bM HB.out) hb);(try clear hb);(try clear hk);(try clear ao);have am : 0 ≤ (ab : Int) := dA;have an : ab < (l1.length : Int) := dA;obtain ⟨av,aH,ad⟩ := Kd.at_int aA.out ab am an;obtain rfl : aF = av := (by injection aH);replace ad := xM HB ad;replace am := eq_true am;replace an := eq_true an))
       repeat (go_quiet (first|(go_at_call 17;(with_reducible refine (varint_Put.calls _ _ ay (wrap64 ((rd l1 ab) - az)) aL _ ?ae ?af a5.out).mono ?_);(case ae => exact cM (Kd.R_reads' ag.out).2.2);(case af => exact (Kd.R_reads' ag.out).2.1);rintro e bl ⟨aZ,rfl,ao,hb⟩;have aG := aK (Kd.R_lower (Kd.R_new' ao (Kd.R_lt (rM ag.out))) (below_size (bM HB.out)));replace ag := aK (Kd.R_elder' (rM ag.out) (Kd.R_base ao) hb);replace HB := aK (below_step (bM HB.out) hb);(try clear hb);(try clear hk);(try clear ao);have am : 0 ≤ (ab : Int) := dA;have an : ab < (l1.length : Int) := dA;obtain ⟨av,aH,ad⟩ := Kd.at_int aA.out ab am an;obtain rfl : aF = av := (by injection aH);replace ad := xM HB ad;replace am := eq_true am;replace an := eq_true an));try go_wp2_with (first|(go_at_call 17;(with_reducible refine (varint_Put.calls _ _ ay (wrap64 ((rd l1 ab) - az)) aL _ ?ae ?af a5.out).mono ?_);(case ae => exact cM (Kd.R_reads' ag.out).2.2);(case af => exact (Kd.R_reads' ag.out).2.1);rintro e bl ⟨aZ,rfl,ao,hb⟩;have aG := aK (Kd.R_lower (Kd.R_new' ao (Kd.R_lt (rM ag.out))) (below_size (bM HB.out)));replace ag := aK (Kd.R_elder' (rM ag.out) (Kd.R_base ao) hb);replace HB := aK (below_step (bM HB.out) hb);(try clear hb);(try clear hk);(try clear ao);have am : 0 ≤ (ab : Int) := dA;have an : ab < (l1.length : Int) := dA;obtain ⟨av,aH,ad⟩ := Kd.at_int aA.out ab am an;obtain rfl : aF = av := (by injection aH);replace ad := xM HB ad;replace am := eq_true am;replace an := eq_true an)))
       go_roundg k2
       case measure => have := aQ.out;have := bg.out;omega
       case rel => exact ⟨(aL),(rd l1 ab),(wrap64 (ab + 1)),(by first|rfl|(simp;done)|(simp [*];done)),(by first|rfl|(simp;done)|(simp [*];done)),H',⟨by have := aQ.out;have := bg.out;omega⟩,⟨rM (Kd.R_mono aG.out (fun _ hk => trivial))⟩,⟨bM HB.out⟩⟩
      ·rw [if_neg aS] at H
       have aX := decide_eq_false aS
       clear aS
       simp only [Option.some.injEq,Prod.mk.injEq] at H
       obtain ⟨rfl,rfl⟩ := H
       go_wp2
       repeat (go_quiet (fail);try go_wp2)
       go_ret2
       exact ⟨_,by first|rfl|(simp [errW_none,errW_some] <;> rfl)|(simp [*,errW_none,errW_some] <;> rfl),rM ag.out,bM HB.out⟩

/-! ### varint_GetList: function 27 -/
mutual
def varint_GetList.l0 : Nat → List Int → Int → List Int → Int → Int → Int → Option (List Int × Int × Int)
|0,_,_,_,_,_,_ => none
|k + 1,x0,ae,ac,af,ad,ab => if ab < ad then ((varint_Get.f k x0 ae).bind fun aa => (if aa.2.2 = 0 then (if ab > 0 then (varint_GetList.j1 k x0 ac af aa.1 aa.2.1 ad ab (aa.1 == 0)) else (varint_GetList.j1 k x0 ac af aa.1 aa.2.1 ad ab false)) else (some (([] : List Int),0,aa.2.2)))) else (some (ac,ae,0))
def varint_GetList.j1 : Nat → List Int → List Int → Int → Int → Int → Int → Int → Bool → Option (List Int × Int × Int)
|0,_,_,_,_,_,_,_,_ => none
|k + 1,x0,ac,aa,ab,ad,ae,af,ag => if ag = true then (some (([] : List Int),0,3)) else (if ab > (wrap64 (4611686018427387904 - aa)) then (some (([] : List Int),0,4)) else (if ac.length < 17592186044416 then (varint_GetList.l0 k x0 ad (ac ++ [wrap64 (aa + ab)]) (wrap64 (aa + ab)) ae (wrap64 (af + 1))) else (none)))
end
def varint_GetList.f (k : Nat) (l0 : List Int) (a1 : Int) (a2 : Int) : Option (List Int × Int × Int) := (varint_Get.f k l0 a1).bind fun aa => (if aa.2.2 = 0 then (if aa.1 > a2 then (some (([] : List Int), 0, 4)) else (varint_GetList.l0 k l0 aa.2.1 ([] : List Int) 0 aa.1 0)) else (some (([] : List Int), 0, aa.2.2)))
theorem varint_GetList.mono_l : ∀ k, (∀ y0 y1 y2 y3 y4 y5, LeO (varint_GetList.l0 k y0 y1 y2 y3 y4 y5) (varint_GetList.l0 (k + 1) y0 y1 y2 y3 y4 y5)) ∧ (∀ y0 y1 y2 y3 y4 y5 y6 y7, LeO (varint_GetList.j1 k y0 y1 y2 y3 y4 y5 y6 y7) (varint_GetList.j1 (k + 1) y0 y1 y2 y3 y4 y5 y6 y7))
|0 => ⟨fun _ _ _ _ _ _ r h => by simp [varint_GetList.l0] at h,fun _ _ _ _ _ _ _ _ r h => by simp [varint_GetList.j1] at h⟩
|k + 1 => by
  obtain ⟨ih0,ih1⟩ := varint_GetList.mono_l k
  refine ⟨?_,?_⟩
  ·intro y0 y1 y2 y3 y4 y5
   unfold varint_GetList.l0
   repeat' (with_reducible first|exact ih1 _ _ _ _ _ _ _ _|exact varint_Get.mono _ _ _|exact LeO.refl _|exact LeO.none _|refine LeO.ite ?_ ?_|refine LeO.bind ?_ (fun _ => ?_))
  ·intro y0 y1 y2 y3 y4 y5 y6 y7
   unfold varint_GetList.j1
   repeat' (with_reducible first|exact ih0 _ _ _ _ _ _|exact LeO.refl _|exact LeO.none _|refine LeO.ite ?_ ?_|refine LeO.bind ?_ (fun _ => ?_))
theorem varint_GetList.mono : ∀ a0 a1 a2 k, LeO (varint_GetList.f k a0 a1 a2) (varint_GetList.f (k + 1) a0 a1 a2) := by
 intro a0 a1 a2 k
 obtain ⟨ih0,ih1⟩ := varint_GetList.mono_l k
 unfold varint_GetList.f
 repeat' (with_reducible first|exact ih0 _ _ _ _ _ _|exact ih1 _ _ _ _ _ _ _ _|exact varint_Get.mono _ _ _|exact LeO.refl _|exact LeO.none _|refine LeO.ite ?_ ?_|refine LeO.bind ?_ (fun _ => ?_))
theorem varint_GetList.calls (k : Nat) (A0 : Option Addr) (c0 : Nat) (l0 : List Int) (a1 : Int) (a2 : Int) (r1 : List Int) (r2 : Int) (r3 : Int) (w : World) (aT : Kd.C (Kd.int .u8) w A0 l0.length l0) (aU : l0.length ≤ c0) (h : varint_GetList.f k l0 a1 a2 = some (r1, r2, r3)) :
  Calls Try.prog 27 #[.slice A0 l0.length c0,.int .i64 a1,.int .i64 a2] w fun e w' => ∃ aV : Value,e = .returned (.tuple #[aV,.int .i64 r2,.int .i64 r3]) ∧ Kd.R (Kd.int .i64) 3 w' w.heap.size (fun _ => True) aV r1 ∧ Below w.heap.size w w' := by
 have aw := aK aT
 have ax := aK aU
 clear aT aU
 have HB := aK (Below.refl w.heap.size w)
 have H : ((varint_Get.f k l0 a1).bind fun ai => (if ai.2.2 = 0 then (if ai.1 > a2 then (some (([] : List Int),0,4)) else (varint_GetList.l0 k l0 ai.2.1 ([] : List Int) 0 ai.1 0)) else (some (([] : List Int),0,ai.2.2)))) = some (r1,r2,r3) := h
 clear h
 replace H := Option.bind_eq_some_iff.mp H
 obtain ⟨⟨ag,ap,ao⟩,aW,H⟩ := H
 replace H : (if ao = 0 then (if ag > a2 then (some (([] : List Int),0,4)) else (varint_GetList.l0 k l0 ap ([] : List Int) 0 ag 0)) else (some (([] : List Int),0,ao))) = some (r1,r2,r3) := H
 have A4 := aK aW
 clear aW
 by_cases c5 : ao = 0
 ·rw [if_pos c5] at H
  have ay := beq_iff_eq.mpr c5
  have az := bne_eq_false_iff_eq.mpr c5
  clear c5
  by_cases c6 : ag > a2
  ·rw [if_pos c6] at H
   have aA := decide_eq_true c6
   clear c6
   simp only [Option.some.injEq,Prod.mk.injEq] at H
   obtain ⟨rfl,rfl,rfl⟩ := H
   go_enter Try.func27,Try.ntmps27
   go_wp2_with (first|((with_reducible refine gate_callee (f := 21) rfl ?_);refine gL 21 Try.func21 #[.slice A0 l0.length c0,.int .i64 a1] ?_;(with_reducible refine (varint_Get.calls k _ _ l0 a1 ag ap ao _ ?ac ?ad A4.out).mono ?_);(case ac => exact cM aw.out);(case ad => exact ax.out);rintro e w' ⟨rfl,⟨nd,rfl⟩⟩;refine ⟨_,rfl,?_⟩))
   go_ret3
   exact ⟨_,by first|rfl|(simp [errW_none,errW_some] <;> rfl)|(simp [*,errW_none,errW_some] <;> rfl),by first|exact Kd.R_nil _ _ _ _ _|exact Kd.N_nil _ _ _ _ _|exact Kd.V_nil _ _ _ _ _|exact Kd.Q_nil _ _ _ _ _|exact Kd.S_nil _ _ _ _ _,bM HB.out⟩
  ·rw [if_neg c6] at H
   have aA := decide_eq_false c6
   clear c6
   have H' := aK H
   clear H
   go_enter Try.func27,Try.ntmps27
   go_wp2_with (first|((with_reducible refine gate_callee (f := 21) rfl ?_);refine gL 21 Try.func21 #[.slice A0 l0.length c0,.int .i64 a1] ?_;(with_reducible refine (varint_Get.calls k _ _ l0 a1 ag ap ao _ ?ac ?ad A4.out).mono ?_);(case ac => exact cM aw.out);(case ad => exact ax.out);rintro e w' ⟨rfl,⟨nd,rfl⟩⟩;refine ⟨_,rfl,?_⟩))
   go_loopg [10,12,13,32] k (fun kq a0 a3 a4 a5 w' => ∃ (ah : Int) (ae : List Int) (aa : Int) (ab : Int),a0 = .int .i64 ah ∧ a4 = .int .i64 aa ∧ a5 = .int .i64 ab ∧ Aside0 (varint_GetList.l0 kq l0 ah ae aa ag ab = some (r1,r2,r3)) ∧ Aside0 (kq ≤ k) ∧ Aside0 (Kd.R (Kd.int .i64) 3 w' w.heap.size (fun _ => True) a3 ae) ∧ Aside0 (Below w.heap.size w w'))
   case atStart => exact ⟨(ap),(([] : List Int)),(0),(0),(by first|rfl|(simp;done)|(simp [*];done)),(by first|rfl|(simp;done)|(simp [*];done)),(by first|rfl|(simp;done)|(simp [*];done)),H',⟨Nat.le_refl _⟩,⟨by first|exact Kd.R_nil _ _ _ _ _|exact Kd.N_nil _ _ _ _ _|exact Kd.V_nil _ _ _ _ _|exact Kd.Q_nil _ _ _ _ _|exact Kd.S_nil _ _ _ _ _⟩,⟨bM HB.out⟩⟩
   case round =>
    clear H'
    try clear p2
    try clear c5
    try clear ay
    try clear az
    try clear c6
    try clear aA
    obtain ⟨ah,ae,aa,ab,rfl,rfl,rfl,HA,aN,aj,HB⟩ := hrel
    cases gk with
   |zero => exact absurd HA.out (by simp [varint_GetList.l0])
   |succ k1 =>
     have H := HA.out
     clear HA
     simp only [varint_GetList.l0] at H
     by_cases c7 : ab < ag
     ·rw [if_pos c7] at H
      have aC := decide_eq_true c7
      clear c7
      replace H := Option.bind_eq_some_iff.mp H
      obtain ⟨⟨af,am,aq⟩,aX,H⟩ := H
      replace H : (if aq = 0 then (if ab > 0 then (varint_GetList.j1 k1 l0 ae aa af am ag ab (af == 0)) else (varint_GetList.j1 k1 l0 ae aa af am ag ab false)) else (some (([] : List Int),0,aq))) = some (r1,r2,r3) := H
      have A8 := aK aX
      clear aX
      by_cases c9 : aq = 0
      ·rw [if_pos c9] at H
       have aD := beq_iff_eq.mpr c9
       have aE := bne_eq_false_iff_eq.mpr c9
       clear c9
       have ar := aK H
       clear H
       go_upto_region 14 with (first|((with_reducible refine gate_callee (f := 21) rfl ?_);refine gL 38 Try.func21 #[.slice A0 l0.length c0,.int .i64 ah] ?_;(with_reducible refine (varint_Get.calls k1 _ _ l0 ah af am aq _ ?ac ?ad A8.out).mono ?_);(case ac => exact cM (Kd.C_below aw.out HB.out));(case ad => exact ax.out);rintro e w' ⟨rfl,⟨nd,rfl⟩⟩;refine ⟨_,rfl,?_⟩))
       (try simp only [Act.put,z1_,z2_,z3_])
       go_cut [50] (fun a6 wc => ∃ (kq : Nat) (an : Bool),a6 = .bool an ∧ Aside0 (varint_GetList.j1 kq l0 ae aa af am ag ab an = some (r1,r2,r3)) ∧ Aside0 (kq ≤ k1) ∧ Aside0 (Kd.R (Kd.int .i64) 3 wc w.heap.size (fun _ => True) u12 ae) ∧ Aside0 (Below w.heap.size w wc))
       case first =>
        have H := ar.out
        clear ar
        by_cases au : ab > 0
        ·rw [if_pos au] at H
         have ak := decide_eq_true au
         clear au
         (first|rw [ak]|(simp only [i64_w,i32_w];rw [ak])|rw [c11b1]|skip)
         have H' := aK H
         clear H
         go_wp2
         go_meet
         case rel => exact ⟨_,((af == 0)),(by first|rfl|(simp;done)|(simp [*];done)),H',⟨by have := aN.out;first|omega|exact Nat.le_refl _⟩,⟨rM aj.out⟩,⟨bM HB.out⟩⟩
        ·rw [if_neg au] at H
         have ak := decide_eq_false au
         clear au
         (first|rw [ak]|(simp only [i64_w,i32_w];rw [ak])|rw [c11b1]|skip)
         have H' := aK H
         clear H
         go_wp2
         go_meet
         case rel => exact ⟨_,(false),(by first|rfl|(simp;done)|(simp [*];done)),H',⟨by have := aN.out;first|omega|exact Nat.le_refl _⟩,⟨rM aj.out⟩,⟨bM HB.out⟩⟩
       case rest =>
        clear ar
        try clear p2
        try clear c7
        try clear aC
        try clear c9
        try clear aD
        try clear aE
        try clear p2
        obtain ⟨kq,an,rfl,HA,aY,aj,HB⟩ := hcut
        cases kq with
       |zero => exact absurd HA.out (by simp [varint_GetList.j1])
       |succ kj9 =>
         have H := HA.out
         clear HA
         simp only [varint_GetList.j1] at H
         by_cases aQ : an = true
         ·subst aQ
          rw [if_pos rfl] at H
          simp only [Option.some.injEq,Prod.mk.injEq] at H
          obtain ⟨rfl,rfl,rfl⟩ := H
          go_wp2
          go_ret3
          exact ⟨_,by first|rfl|(simp [errW_none,errW_some] <;> rfl)|(simp [*,errW_none,errW_some] <;> rfl),by first|exact Kd.R_nil _ _ _ _ _|exact Kd.N_nil _ _ _ _ _|exact Kd.V_nil _ _ _ _ _|exact Kd.Q_nil _ _ _ _ _|exact Kd.S_nil _ _ _ _ _,bM HB.out⟩
         ·replace aQ := Bool.eq_false_iff.mpr aQ
          subst aQ
          rw [if_neg (show ¬ (false = true) by decide)] at H
          by_cases av : af > (wrap64 (4611686018427387904 - aa))
          ·rw [if_pos av] at H
           have aG := decide_eq_true av
           clear av
           simp only [Option.some.injEq,Prod.mk.injEq] at H
           obtain ⟨rfl,rfl,rfl⟩ := H
           go_wp2
           go_ret3
           exact ⟨_,by first|rfl|(simp [errW_none,errW_some] <;> rfl)|(simp [*,errW_none,errW_some] <;> rfl),by first|exact Kd.R_nil _ _ _ _ _|exact Kd.N_nil _ _ _ _ _|exact Kd.V_nil _ _ _ _ _|exact Kd.Q_nil _ _ _ _ _|exact Kd.S_nil _ _ _ _ _,bM HB.out⟩
          ·rw [if_neg av] at H
           have aG := decide_eq_false av
           clear av
           obtain ⟨aZ,H⟩ := iS H
           have aH := aK aZ
           clear aZ
           obtain ⟨aI,al⟩ : ∃ y_ : List Int,y_ = (ae ++ [wrap64 (aa + af)]) := ⟨_,rfl⟩
           replace H : (varint_GetList.l0 kj9 l0 am aI (wrap64 (aa + af)) ag (wrap64 (ab + 1))) = some (r1,r2,r3) := by first|(rw [al];with_reducible exact H)|(have aR := (Option.bind_some _ _).symm.trans H;rw [al];with_reducible exact aR)|(have aR := (Option.bind_some _ _).symm.trans H;with_reducible exact aR)|with_reducible exact H|(rw [al];exact H)|exact H
           have aJ := aK al
           clear al
           have H' := aK H
           clear H
           go_wp2_with (first|((with_reducible refine gate_builtin (b := .append) (xs := #[.tmp 58,.tmp 60]) rfl ?_);at_builtin;refine Kd.R_append (Kd.int .i64) (w0 := w) w.heap.size rfl (.tmp 58) (.tmp 60) 32 3 (.int .i64 0) 8 rfl Try.underlying32 info3 rfl (by decide) (by omega) u12 ae (wrap64 (aa + af)) [.int .i64 (wrap64 (aa + af))] (fun _ => True) (fun _ => False) rfl rfl ?aP (fun _ hk => hk.elim) ?aF ?aO ?aB ?aS ?aL ?_;(case aP => exact rfl);(case aB => exact (bM HB.out));(case aF => exact (fun _ _ => trivial));(case aO => exact (rM aj.out));(case aS => exact (below_size (bM HB.out)));(case aL => have := aH.out;omega);intro a7 a8 ho hb hg hat;rw [← aJ.out] at ho;replace HB := aK (hb);have aM := aK (ho);clear ho hb hg hat))
           go_roundg kj9
           case measure => have := aN.out;have := aY.out;omega
           case rel => exact ⟨(am),(aI),(wrap64 (aa + af)),(wrap64 (ab + 1)),(by first|rfl|(simp;done)|(simp [*];done)),(by first|rfl|(simp;done)|(simp [*];done)),(by first|rfl|(simp;done)|(simp [*];done)),H',⟨by have := aN.out;have := aY.out;omega⟩,⟨rM aM.out⟩,⟨bM HB.out⟩⟩
      ·rw [if_neg c9] at H
       have aD := beq_eq_false_iff_ne.mpr c9
       have aE := bne_iff_ne.mpr c9
       simp only [Option.some.injEq,Prod.mk.injEq] at H
       obtain ⟨rfl,rfl,rfl⟩ := H
       go_wp2_with (first|((with_reducible refine gate_callee (f := 21) rfl ?_);refine gL 38 Try.func21 #[.slice A0 l0.length c0,.int .i64 ah] ?_;(with_reducible refine (varint_Get.calls k1 _ _ l0 ah af am aq _ ?ac ?ad A8.out).mono ?_);(case ac => exact cM (Kd.C_below aw.out HB.out));(case ad => exact ax.out);rintro e w' ⟨rfl,⟨nd,rfl⟩⟩;refine ⟨_,rfl,?_⟩))
       go_ret3
       exact ⟨_,by first|rfl|(simp [errW_none,errW_some] <;> rfl)|(simp [*,errW_none,errW_some] <;> rfl),by first|exact Kd.R_nil _ _ _ _ _|exact Kd.N_nil _ _ _ _ _|exact Kd.V_nil _ _ _ _ _|exact Kd.Q_nil _ _ _ _ _|exact Kd.S_nil _ _ _ _ _,bM HB.out⟩
     ·rw [if_neg c7] at H
      have aC := decide_eq_false c7
      clear c7
      simp only [Option.some.injEq,Prod.mk.injEq] at H
      obtain ⟨rfl,rfl,rfl⟩ := H
      go_wp2
      go_ret3
      exact ⟨_,by first|rfl|(simp [errW_none,errW_some] <;> rfl)|(simp [*,errW_none,errW_some] <;> rfl),rM aj.out,bM HB.out⟩
 ·rw [if_neg c5] at H
  have ay := beq_eq_false_iff_ne.mpr c5
  have az := bne_iff_ne.mpr c5
  simp only [Option.some.injEq,Prod.mk.injEq] at H
  obtain ⟨rfl,rfl,rfl⟩ := H
  go_enter Try.func27,Try.ntmps27
  go_wp2_with (first|((with_reducible refine gate_callee (f := 21) rfl ?_);refine gL 21 Try.func21 #[.slice A0 l0.length c0,.int .i64 a1] ?_;(with_reducible refine (varint_Get.calls k _ _ l0 a1 ag ap ao _ ?ac ?ad A4.out).mono ?_);(case ac => exact cM aw.out);(case ad => exact ax.out);rintro e w' ⟨rfl,⟨nd,rfl⟩⟩;refine ⟨_,rfl,?_⟩))
  go_ret3
  exact ⟨_,by first|rfl|(simp [errW_none,errW_some] <;> rfl)|(simp [*,errW_none,errW_some] <;> rfl),by first|exact Kd.R_nil _ _ _ _ _|exact Kd.N_nil _ _ _ _ _|exact Kd.V_nil _ _ _ _ _|exact Kd.Q_nil _ _ _ _ _|exact Kd.S_nil _ _ _ _ _,bM HB.out⟩

/-! ### l03_alive: function 15 -/
def l03_alive.f (k : Nat)  : Option (Bool) := (varint_Put.f ([] : List Int) 0).bind fun af => (if (strOfNums af).toList = ([0] : List UInt8) then ((varint_Put.f ([] : List Int) 127).bind fun ag => (if (strOfNums ag).toList = ([127] : List UInt8) then ((varint_Put.f ([] : List Int) 128).bind fun ah => (if (strOfNums ah).toList = ([128, 1] : List UInt8) then ((varint_Put.f ([] : List Int) 300).bind fun ai => (if (strOfNums ai).toList = ([172, 2] : List UInt8) then ((varint_PutList.f k ([] : List Int) (([3, 5, 300] : List Int))).bind fun aa => ((varint_PutString.f ([] : List Int) (⟨#[97, 98]⟩ : ByteArray)).bind fun aj => (if (strOfNums aj).toList = ([2, 97, 98] : List UInt8) then (if aa.2 = 0 then (if (strOfNums aa.1).toList = ([3, 3, 2, 167, 2] : List UInt8) then ((varint_Get.f k (([128, 0] : List Int)) 0).bind fun ab => ((varint_Get.f k (([128] : List Int)) 0).bind fun ac => ((varint_Get.f k (([1] : List Int)) 2).bind fun ad => ((varint_GetList.f k (([2, 4, 0] : List Int)) 0 5).bind fun ae => (if ab.2.2 = 3 then (if ac.2.2 = 5 then (if ad.2.2 = 2 then (some (ae.2.2 == 3)) else (none)) else (none)) else (none)))))) else (none)) else (none)) else (none)))) else (none))) else (none))) else (none))) else (none))
theorem l03_alive.mono : ∀ k, LeO (l03_alive.f k ) (l03_alive.f (k + 1) ) := by
 intro  k
 unfold l03_alive.f
 repeat' (with_reducible first|exact varint_Get.mono _ _ _|exact varint_GetList.mono _ _ _ _|exact varint_PutList.mono _ _ _|exact LeO.refl _|exact LeO.none _|refine LeO.ite ?_ ?_|refine LeO.bind ?_ (fun _ => ?_))
theorem l03_alive.calls (k : Nat)  (r : Bool) (w : World) (h : l03_alive.f k  = some r) :
  Calls Try.prog 15 #[] w fun e w' => e = .returned (.bool r) ∧ Below w.heap.size w w' := by
 have HB := aK (Below.refl w.heap.size w)
 unfold l03_alive.f at h
 have H := h
 clear h
 replace H := Option.bind_eq_some_iff.mp H
 obtain ⟨aV,a6,H⟩ := H
 have A1 := aK a6
 clear a6
 by_cases c2 : (strOfNums aV).toList = ([0] : List UInt8)
 ·rw [if_pos c2] at H
  have b5 := beq_iff_eq.mpr c2
  have b6 := bne_eq_false_iff_eq.mpr c2
  clear c2
  replace H := Option.bind_eq_some_iff.mp H
  obtain ⟨a7,bI,H⟩ := H
  have A3 := aK bI
  clear bI
  obtain ⟨c4,H⟩ := iS H
  have b7 := beq_iff_eq.mpr c4
  have b8 := bne_eq_false_iff_eq.mpr c4
  clear c4
  replace H := Option.bind_eq_some_iff.mp H
  obtain ⟨a8,bJ,H⟩ := H
  have A5 := aK bJ
  clear bJ
  obtain ⟨c6,H⟩ := iS H
  have b9 := beq_iff_eq.mpr c6
  have ca := bne_eq_false_iff_eq.mpr c6
  clear c6
  replace H := Option.bind_eq_some_iff.mp H
  obtain ⟨a9,bK,H⟩ := H
  have A7 := aK bK
  clear bK
  obtain ⟨c8,H⟩ := iS H
  have cb := beq_iff_eq.mpr c8
  have cc := bne_eq_false_iff_eq.mpr c8
  clear c8
  obtain ⟨aQ,au⟩ : ∃ y_ : List Int,y_ = (([3,5,300] : List Int)) := ⟨_,rfl⟩
  replace H : ((varint_PutList.f k ([] : List Int) aQ).bind fun aJ => ((varint_PutString.f ([] : List Int) (⟨#[97,98]⟩ : ByteArray)).bind fun aD => (if (strOfNums aD).toList = ([2,97,98] : List UInt8) then (if aJ.2 = 0 then (if (strOfNums aJ.1).toList = ([3,3,2,167,2] : List UInt8) then ((varint_Get.f k (([128,0] : List Int)) 0).bind fun av => ((varint_Get.f k (([128] : List Int)) 0).bind fun am => ((varint_Get.f k (([1] : List Int)) 2).bind fun ai => ((varint_GetList.f k (([2,4,0] : List Int)) 0 5).bind fun ag => (if av.2.2 = 3 then (if am.2.2 = 5 then (if ai.2.2 = 2 then (some (ag.2.2 == 3)) else (none)) else (none)) else (none)))))) else (none)) else (none)) else (none)))) = some r := by first|(rw [au];with_reducible exact H)|(have ar := (Option.bind_some _ _).symm.trans H;rw [au];with_reducible exact ar)|(have ar := (Option.bind_some _ _).symm.trans H;with_reducible exact ar)|with_reducible exact H|(rw [au];exact H)|exact H
  have aL := aK au
  clear au
  replace H := Option.bind_eq_some_iff.mp H
  obtain ⟨⟨aW,aX⟩,bL,H⟩ := H
  replace H : ((varint_PutString.f ([] : List Int) (⟨#[97,98]⟩ : ByteArray)).bind fun aD => (if (strOfNums aD).toList = ([2,97,98] : List UInt8) then (if aX = 0 then (if (strOfNums aW).toList = ([3,3,2,167,2] : List UInt8) then ((varint_Get.f k (([128,0] : List Int)) 0).bind fun av => ((varint_Get.f k (([128] : List Int)) 0).bind fun am => ((varint_Get.f k (([1] : List Int)) 2).bind fun ai => ((varint_GetList.f k (([2,4,0] : List Int)) 0 5).bind fun ag => (if av.2.2 = 3 then (if am.2.2 = 5 then (if ai.2.2 = 2 then (some (ag.2.2 == 3)) else (none)) else (none)) else (none)))))) else (none)) else (none)) else (none))) = some r := H
  have A9 := aK bL
  clear bL
  replace H := Option.bind_eq_some_iff.mp H
  obtain ⟨aD,aY,H⟩ := H
  have a6 := aK aY
  clear aY
  obtain ⟨ba,H⟩ := iS H
  have bN := beq_iff_eq.mpr ba
  have bO := bne_eq_false_iff_eq.mpr ba
  clear ba
  obtain ⟨bb,H⟩ := iS H
  have bP := beq_iff_eq.mpr bb
  have bQ := bne_eq_false_iff_eq.mpr bb
  clear bb
  obtain ⟨bc,H⟩ := iS H
  have bR := beq_iff_eq.mpr bc
  have bS := bne_eq_false_iff_eq.mpr bc
  clear bc
  obtain ⟨aR,aw⟩ : ∃ y_ : List Int,y_ = (([128,0] : List Int)) := ⟨_,rfl⟩
  replace H : ((varint_Get.f k aR 0).bind fun av => ((varint_Get.f k (([128] : List Int)) 0).bind fun am => ((varint_Get.f k (([1] : List Int)) 2).bind fun ai => ((varint_GetList.f k (([2,4,0] : List Int)) 0 5).bind fun ag => (if av.2.2 = 3 then (if am.2.2 = 5 then (if ai.2.2 = 2 then (some (ag.2.2 == 3)) else (none)) else (none)) else (none)))))) = some r := by first|(rw [aw];with_reducible exact H)|(have ar := (Option.bind_some _ _).symm.trans H;rw [aw];with_reducible exact ar)|(have ar := (Option.bind_some _ _).symm.trans H;with_reducible exact ar)|with_reducible exact H|(rw [aw];exact H)|exact H
  have aM := aK aw
  clear aw
  replace H := Option.bind_eq_some_iff.mp H
  obtain ⟨⟨bd,be,ax⟩,aZ,H⟩ := H
  replace H : ((varint_Get.f k (([128] : List Int)) 0).bind fun am => ((varint_Get.f k (([1] : List Int)) 2).bind fun ai => ((varint_GetList.f k (([2,4,0] : List Int)) 0 5).bind fun ag => (if ax = 3 then (if am.2.2 = 5 then (if ai.2.2 = 2 then (some (ag.2.2 == 3)) else (none)) else (none)) else (none))))) = some r := H
  have cd := aK aZ
  clear aZ
  obtain ⟨aS,ay⟩ : ∃ y_ : List Int,y_ = (([128] : List Int)) := ⟨_,rfl⟩
  replace H : ((varint_Get.f k aS 0).bind fun am => ((varint_Get.f k (([1] : List Int)) 2).bind fun ai => ((varint_GetList.f k (([2,4,0] : List Int)) 0 5).bind fun ag => (if ax = 3 then (if am.2.2 = 5 then (if ai.2.2 = 2 then (some (ag.2.2 == 3)) else (none)) else (none)) else (none))))) = some r := by first|(rw [ay];with_reducible exact H)|(have ar := (Option.bind_some _ _).symm.trans H;rw [ay];with_reducible exact ar)|(have ar := (Option.bind_some _ _).symm.trans H;with_reducible exact ar)|with_reducible exact H|(rw [ay];exact H)|exact H
  have aN := aK ay
  clear ay
  replace H := Option.bind_eq_some_iff.mp H
  obtain ⟨⟨bf,bg,aC⟩,a0,H⟩ := H
  replace H : ((varint_Get.f k (([1] : List Int)) 2).bind fun ai => ((varint_GetList.f k (([2,4,0] : List Int)) 0 5).bind fun ag => (if ax = 3 then (if aC = 5 then (if ai.2.2 = 2 then (some (ag.2.2 == 3)) else (none)) else (none)) else (none)))) = some r := H
  have ce := aK a0
  clear a0
  obtain ⟨aT,az⟩ : ∃ y_ : List Int,y_ = (([1] : List Int)) := ⟨_,rfl⟩
  replace H : ((varint_Get.f k aT 2).bind fun ai => ((varint_GetList.f k (([2,4,0] : List Int)) 0 5).bind fun ag => (if ax = 3 then (if aC = 5 then (if ai.2.2 = 2 then (some (ag.2.2 == 3)) else (none)) else (none)) else (none)))) = some r := by first|(rw [az];with_reducible exact H)|(have ar := (Option.bind_some _ _).symm.trans H;rw [az];with_reducible exact ar)|(have ar := (Option.bind_some _ _).symm.trans H;with_reducible exact ar)|with_reducible exact H|(rw [az];exact H)|exact H
  have aO := aK az
  clear az
  replace H := Option.bind_eq_some_iff.mp H
  obtain ⟨⟨bh,bi,aI⟩,a1,H⟩ := H
  replace H : ((varint_GetList.f k (([2,4,0] : List Int)) 0 5).bind fun ag => (if ax = 3 then (if aC = 5 then (if aI = 2 then (some (ag.2.2 == 3)) else (none)) else (none)) else (none))) = some r := H
  have cf := aK a1
  clear a1
  obtain ⟨aU,aA⟩ : ∃ y_ : List Int,y_ = (([2,4,0] : List Int)) := ⟨_,rfl⟩
  replace H : ((varint_GetList.f k aU 0 5).bind fun ag => (if ax = 3 then (if aC = 5 then (if aI = 2 then (some (ag.2.2 == 3)) else (none)) else (none)) else (none))) = some r := by first|(rw [aA];with_reducible exact H)|(have ar := (Option.bind_some _ _).symm.trans H;rw [aA];with_reducible exact ar)|(have ar := (Option.bind_some _ _).symm.trans H;with_reducible exact ar)|with_reducible exact H|(rw [aA];exact H)|exact H
  have aP := aK aA
  clear aA
  replace H := Option.bind_eq_some_iff.mp H
  obtain ⟨⟨bj,bk,a2⟩,a3,H⟩ := H
  replace H : (if ax = 3 then (if aC = 5 then (if aI = 2 then (some (a2 == 3)) else (none)) else (none)) else (none)) = some r := H
  have cg := aK a3
  clear a3
  obtain ⟨bl,H⟩ := iS H
  have bT := beq_iff_eq.mpr bl
  have bU := bne_eq_false_iff_eq.mpr bl
  clear bl
  obtain ⟨bm,H⟩ := iS H
  have bV := beq_iff_eq.mpr bm
  have bW := bne_eq_false_iff_eq.mpr bm
  clear bm
  obtain ⟨bn,H⟩ := iS H
  have bX := beq_iff_eq.mpr bn
  have bY := bne_eq_false_iff_eq.mpr bn
  clear bn
  obtain rfl := Option.some.inj H
  go_enter Try.func15,Try.ntmps15
  go_wp2_with (first|(go_at_call 17;refine calls_of_args (args' := #[.slice none ([] : List Int).length 0,.int .i64 0]) (by first|with_reducible rfl|(simp only [List.length_nil];done)|(simp only [List.length_nil];with_reducible rfl)) ?_;(with_reducible refine (varint_Put.calls _ _ ([] : List Int) 0 aV _ ?ad ?ae A1.out).mono ?_);(case ad => exact Kd.C_nil _ _);(case ae => exact Nat.le_refl _);rintro e ct ⟨ch,rfl,ak,hb⟩;have aa := aK (Kd.R_lower ak (below_size (bM HB.out)));replace HB := aK (below_step (bM HB.out) hb);(try clear hb);(try clear hk);(try clear ak);have bZ := own_string (P := Try.prog) Try.underlying22 Try.underlying5 Try.underlying9 (Kd.own_of_R aa.out))|(go_at_call 17;refine calls_of_args (args' := #[.slice none ([] : List Int).length 0,.int .i64 127]) (by first|with_reducible rfl|(simp only [List.length_nil];done)|(simp only [List.length_nil];with_reducible rfl)) ?_;(with_reducible refine (varint_Put.calls _ _ ([] : List Int) 127 a7 _ ?ad ?ae A3.out).mono ?_);(case ad => exact Kd.C_nil _ _);(case ae => exact Nat.le_refl _);rintro e cu ⟨ci,rfl,ak,hb⟩;have ab := aK (Kd.R_lower (Kd.R_new' ak (Kd.R_lt (rM aa.out))) (below_size (bM HB.out)));replace aa := aK (Kd.R_elder' (rM aa.out) (Kd.R_base ak) hb);replace HB := aK (below_step (bM HB.out) hb);(try clear hb);(try clear hk);(try clear ak);have b0 := own_string (P := Try.prog) Try.underlying22 Try.underlying5 Try.underlying9 (Kd.own_of_R ab.out))|(go_at_call 17;refine calls_of_args (args' := #[.slice none ([] : List Int).length 0,.int .i64 128]) (by first|with_reducible rfl|(simp only [List.length_nil];done)|(simp only [List.length_nil];with_reducible rfl)) ?_;(with_reducible refine (varint_Put.calls _ _ ([] : List Int) 128 a8 _ ?ad ?ae A5.out).mono ?_);(case ad => exact Kd.C_nil _ _);(case ae => exact Nat.le_refl _);rintro e cv ⟨cj,rfl,ak,hb⟩;have ac := aK (Kd.R_lower (Kd.R_new' (Kd.R_new' ak (Kd.R_lt (rM aa.out))) (Kd.R_lt (rM ab.out))) (below_size (bM HB.out)));replace aa := aK (Kd.R_elder' (rM aa.out) (Kd.R_base ak) hb);replace ab := aK (Kd.R_elder' (rM ab.out) (Kd.R_base ak) hb);replace HB := aK (below_step (bM HB.out) hb);(try clear hb);(try clear hk);(try clear ak);have b1 := own_string (P := Try.prog) Try.underlying22 Try.underlying5 Try.underlying9 (Kd.own_of_R ac.out))|(go_at_call 17;refine calls_of_args (args' := #[.slice none ([] : List Int).length 0,.int .i64 300]) (by first|with_reducible rfl|(simp only [List.length_nil];done)|(simp only [List.length_nil];with_reducible rfl)) ?_;(with_reducible refine (varint_Put.calls _ _ ([] : List Int) 300 a9 _ ?ad ?ae A7.out).mono ?_);(case ad => exact Kd.C_nil _ _);(case ae => exact Nat.le_refl _);rintro e cw ⟨ck,rfl,ak,hb⟩;have af := aK (Kd.R_lower (Kd.R_new' (Kd.R_new' (Kd.R_new' ak (Kd.R_lt (rM aa.out))) (Kd.R_lt (rM ab.out))) (Kd.R_lt (rM ac.out))) (below_size (bM HB.out)));replace aa := aK (Kd.R_elder' (rM aa.out) (Kd.R_base ak) hb);replace ab := aK (Kd.R_elder' (rM ab.out) (Kd.R_base ak) hb);replace ac := aK (Kd.R_elder' (rM ac.out) (Kd.R_base ak) hb);replace HB := aK (below_step (bM HB.out) hb);(try clear hb);(try clear hk);(try clear ak);have b2 := own_string (P := Try.prog) Try.underlying22 Try.underlying5 Try.underlying9 (Kd.own_of_R af.out))|((with_reducible refine gate_dst (N := 34) rfl ?_);refine Kd.R_lit (Kd.int .i64) _ 3 ?hg (N := 34) ?hd (xs := ([3,5,300] : List Int)) (inner := [.int .i64 3,.int .i64 5,.int .i64 300]) (ok := fun _ => True) (okp := fun _ => True) ?hr ?hp (fun _ hk => hk) trivial (Below.refl _ _) (Nat.le_refl _) (by simp) ?_;(case hd => rfl);(case hg => rfl);(case hr => first|(go_simp;done)|(go_simp;rfl));(case hp => exact (Reps.one (show Kd.M (Kd.int .i64) _ _ _ 3 [.int .i64 3] from rfl) (Reps.one (show Kd.M (Kd.int .i64) _ _ _ 5 [.int .i64 5] from rfl) (Reps.one (show Kd.M (Kd.int .i64) _ _ _ 300 [.int .i64 300] from rfl) (Reps.none _ _)))));intro cl cx aE hb hg_ hnew_;clear hg_ hnew_;(first|rw [← aL.out] at aE|(simp only [Int.reduceToNat] at aE;rw [← aL.out] at aE));replace aa := aK (Kd.R_below (rM aa.out) hb);replace ab := aK (Kd.R_below (rM ab.out) hb);replace ac := aK (Kd.R_below (rM ac.out) hb);replace af := aK (Kd.R_below (rM af.out) hb);have aF := aK (Kd.R_lower aE (below_size (bM HB.out)));replace HB := aK (below_step (bM HB.out) hb);clear hb aE;obtain ⟨bo,bp,bq⟩ := Kd.R_slice aF.out;subst bq)|(go_at_call 23;refine calls_of_args (args' := #[.slice none ([] : List Int).length 0,.slice bo aQ.length bp]) (by first|with_reducible rfl|(simp only [List.length_nil];done)|(simp only [List.length_nil];with_reducible rfl)) ?_;(with_reducible refine (varint_PutList.calls k _ _ ([] : List Int) _ _ aQ aW aX _ ?ad ?ae ?a4 ?a5 A9.out).mono ?_);(case ad => exact Kd.C_nil _ _);(case ae => exact Nat.le_refl _);(case a4 => exact cM (Kd.R_reads' aF.out).2.2);(case a5 => exact (Kd.R_reads' aF.out).2.1);rintro e cy ⟨cm,rfl,ak,hb⟩;have ah := aK (Kd.R_lower (Kd.R_new' (Kd.R_new' (Kd.R_new' (Kd.R_new' ak (Kd.R_lt (rM aa.out))) (Kd.R_lt (rM ab.out))) (Kd.R_lt (rM ac.out))) (Kd.R_lt (rM af.out))) (below_size (bM HB.out)));replace aa := aK (Kd.R_elder' (rM aa.out) (Kd.R_base ak) hb);replace ab := aK (Kd.R_elder' (rM ab.out) (Kd.R_base ak) hb);replace ac := aK (Kd.R_elder' (rM ac.out) (Kd.R_base ak) hb);replace af := aK (Kd.R_elder' (rM af.out) (Kd.R_base ak) hb);replace HB := aK (below_step (bM HB.out) hb);(try clear hb);(try clear hk);(try clear ak))|(go_at_call 19;refine calls_of_args (args' := #[.slice none ([] : List Int).length 0,.string (⟨#[97,98]⟩ : ByteArray)]) (by first|with_reducible rfl|(simp only [List.length_nil];done)|(simp only [List.length_nil];with_reducible rfl)) ?_;(with_reducible refine (varint_PutString.calls _ _ ([] : List Int) (⟨#[97,98]⟩ : ByteArray) aD _ ?ad ?ae a6.out).mono ?_);(case ad => exact Kd.C_nil _ _);(case ae => exact Nat.le_refl _);rintro e cz ⟨cn,rfl,ak,hb⟩;have aj := aK (Kd.R_lower (Kd.R_new' (Kd.R_new' (Kd.R_new' (Kd.R_new' (Kd.R_new' ak (Kd.R_lt (rM aa.out))) (Kd.R_lt (rM ab.out))) (Kd.R_lt (rM ac.out))) (Kd.R_lt (rM af.out))) (Kd.R_lt (rM ah.out))) (below_size (bM HB.out)));replace aa := aK (Kd.R_elder' (rM aa.out) (Kd.R_base ak) hb);replace ab := aK (Kd.R_elder' (rM ab.out) (Kd.R_base ak) hb);replace ac := aK (Kd.R_elder' (rM ac.out) (Kd.R_base ak) hb);replace af := aK (Kd.R_elder' (rM af.out) (Kd.R_base ak) hb);replace ah := aK (Kd.R_elder' (rM ah.out) (Kd.R_base ak) hb);replace HB := aK (below_step (bM HB.out) hb);(try clear hb);(try clear hk);(try clear ak);have b3 := own_string (P := Try.prog) Try.underlying22 Try.underlying5 Try.underlying9 (Kd.own_of_R aj.out);have b4 := own_string (P := Try.prog) Try.underlying22 Try.underlying5 Try.underlying9 (Kd.own_of_R ah.out))|((with_reducible refine gate_dst (N := 51) rfl ?_);refine Kd.R_lit (Kd.int .u8) _ 5 ?hg (N := 51) ?hd (xs := ([128,0] : List Int)) (inner := [.int .u8 128,.int .u8 0]) (ok := fun _ => True) (okp := fun _ => True) ?hr ?hp (fun _ hk => hk) trivial (Below.refl _ _) (Nat.le_refl _) (by simp) ?_;(case hd => rfl);(case hg => rfl);(case hr => first|(go_simp;done)|(go_simp;rfl));(case hp => exact (Reps.one (show Kd.M (Kd.int .u8) _ _ _ 128 [.int .u8 128] from rfl) (Reps.one (show Kd.M (Kd.int .u8) _ _ _ 0 [.int .u8 0] from rfl) (Reps.none _ _))));intro co cA ap hb hg_ hnew_;clear hg_ hnew_;(first|rw [← aM.out] at ap|(simp only [Int.reduceToNat] at ap;rw [← aM.out] at ap));have al := aK (Kd.R_lower (Kd.R_new' (Kd.R_new' (Kd.R_new' (Kd.R_new' (Kd.R_new' (Kd.R_new' ap (Kd.R_lt (rM aa.out))) (Kd.R_lt (rM ab.out))) (Kd.R_lt (rM ac.out))) (Kd.R_lt (rM af.out))) (Kd.R_lt (rM ah.out))) (Kd.R_lt (rM aj.out))) (below_size (bM HB.out)));replace aa := aK (Kd.R_elder' (rM aa.out) (Kd.R_base ap) hb);replace ab := aK (Kd.R_elder' (rM ab.out) (Kd.R_base ap) hb);replace ac := aK (Kd.R_elder' (rM ac.out) (Kd.R_base ap) hb);replace af := aK (Kd.R_elder' (rM af.out) (Kd.R_base ap) hb);replace ah := aK (Kd.R_elder' (rM ah.out) (Kd.R_base ap) hb);replace aj := aK (Kd.R_elder' (rM aj.out) (Kd.R_base ap) hb);replace HB := aK (below_step (bM HB.out) hb);clear hb ap;obtain ⟨br,bs,bu⟩ := Kd.R_slice al.out;subst bu)|((with_reducible refine gate_callee (f := 21) rfl ?_);refine gL 52 Try.func21 #[.slice br aR.length bs,.int .i64 0] ?_;(with_reducible refine (varint_Get.calls k _ _ aR 0 bd be ax _ ?ad ?ae cd.out).mono ?_);(case ad => exact cM (Kd.R_reads' al.out).2.2);(case ae => exact (Kd.R_reads' al.out).2.1);rintro e w' ⟨rfl,⟨nd,rfl⟩⟩;refine ⟨_,rfl,?_⟩)|((with_reducible refine gate_dst (N := 57) rfl ?_);refine Kd.R_lit (Kd.int .u8) _ 5 ?hg (N := 57) ?hd (xs := ([128] : List Int)) (inner := [.int .u8 128]) (ok := fun _ => True) (okp := fun _ => True) ?hr ?hp (fun _ hk => hk) trivial (Below.refl _ _) (Nat.le_refl _) (by simp) ?_;(case hd => rfl);(case hg => rfl);(case hr => first|(go_simp;done)|(go_simp;rfl));(case hp => exact (Reps.one (show Kd.M (Kd.int .u8) _ _ _ 128 [.int .u8 128] from rfl) (Reps.none _ _)));intro cp cB ao hb hg_ hnew_;clear hg_ hnew_;(first|rw [← aN.out] at ao|(simp only [Int.reduceToNat] at ao;rw [← aN.out] at ao));have aq := aK (Kd.R_lower (Kd.R_new' (Kd.R_new' (Kd.R_new' (Kd.R_new' (Kd.R_new' (Kd.R_new' (Kd.R_new' ao (Kd.R_lt (rM aa.out))) (Kd.R_lt (rM ab.out))) (Kd.R_lt (rM ac.out))) (Kd.R_lt (rM af.out))) (Kd.R_lt (rM ah.out))) (Kd.R_lt (rM aj.out))) (Kd.R_lt (rM al.out))) (below_size (bM HB.out)));replace aa := aK (Kd.R_elder' (rM aa.out) (Kd.R_base ao) hb);replace ab := aK (Kd.R_elder' (rM ab.out) (Kd.R_base ao) hb);replace ac := aK (Kd.R_elder' (rM ac.out) (Kd.R_base ao) hb);replace af := aK (Kd.R_elder' (rM af.out) (Kd.R_base ao) hb);replace ah := aK (Kd.R_elder' (rM ah.out) (Kd.R_base ao) hb);replace aj := aK (Kd.R_elder' (rM aj.out) (Kd.R_base ao) hb);replace al := aK (Kd.R_elder' (rM al.out) (Kd.R_base ao) hb);replace HB := aK (below_step (bM HB.out) hb);clear hb ao;obtain ⟨bv,bx,bz⟩ := Kd.R_slice aq.out;subst bz)|((with_reducible refine gate_callee (f := 21) rfl ?_);refine gL 58 Try.func21 #[.slice bv aS.length bx,.int .i64 0] ?_;(with_reducible refine (varint_Get.calls k _ _ aS 0 bf bg aC _ ?ad ?ae ce.out).mono ?_);(case ad => exact cM (Kd.R_reads' aq.out).2.2);(case ae => exact (Kd.R_reads' aq.out).2.1);rintro e w' ⟨rfl,⟨nd,rfl⟩⟩;refine ⟨_,rfl,?_⟩)|((with_reducible refine gate_dst (N := 63) rfl ?_);refine Kd.R_lit (Kd.int .u8) _ 5 ?hg (N := 63) ?hd (xs := ([1] : List Int)) (inner := [.int .u8 1]) (ok := fun _ => True) (okp := fun _ => True) ?hr ?hp (fun _ hk => hk) trivial (Below.refl _ _) (Nat.le_refl _) (by simp) ?_;(case hd => rfl);(case hg => rfl);(case hr => first|(go_simp;done)|(go_simp;rfl));(case hp => exact (Reps.one (show Kd.M (Kd.int .u8) _ _ _ 1 [.int .u8 1] from rfl) (Reps.none _ _)));intro cq cC an hb hg_ hnew_;clear hg_ hnew_;(first|rw [← aO.out] at an|(simp only [Int.reduceToNat] at an;rw [← aO.out] at an));have aB := aK (Kd.R_lower (Kd.R_new' (Kd.R_new' (Kd.R_new' (Kd.R_new' (Kd.R_new' (Kd.R_new' (Kd.R_new' (Kd.R_new' an (Kd.R_lt (rM aa.out))) (Kd.R_lt (rM ab.out))) (Kd.R_lt (rM ac.out))) (Kd.R_lt (rM af.out))) (Kd.R_lt (rM ah.out))) (Kd.R_lt (rM aj.out))) (Kd.R_lt (rM al.out))) (Kd.R_lt (rM aq.out))) (below_size (bM HB.out)));replace aa := aK (Kd.R_elder' (rM aa.out) (Kd.R_base an) hb);replace ab := aK (Kd.R_elder' (rM ab.out) (Kd.R_base an) hb);replace ac := aK (Kd.R_elder' (rM ac.out) (Kd.R_base an) hb);replace af := aK (Kd.R_elder' (rM af.out) (Kd.R_base an) hb);replace ah := aK (Kd.R_elder' (rM ah.out) (Kd.R_base an) hb);replace aj := aK (Kd.R_elder' (rM aj.out) (Kd.R_base an) hb);replace al := aK (Kd.R_elder' (rM al.out) (Kd.R_base an) hb);replace aq := aK (Kd.R_elder' (rM aq.out) (Kd.R_base an) hb);replace HB := aK (below_step (bM HB.out) hb);clear hb an;obtain ⟨bB,bC,bD⟩ := Kd.R_slice aB.out;subst bD)|((with_reducible refine gate_callee (f := 21) rfl ?_);refine gL 64 Try.func21 #[.slice bB aT.length bC,.int .i64 2] ?_;(with_reducible refine (varint_Get.calls k _ _ aT 2 bh bi aI _ ?ad ?ae cf.out).mono ?_);(case ad => exact cM (Kd.R_reads' aB.out).2.2);(case ae => exact (Kd.R_reads' aB.out).2.1);rintro e w' ⟨rfl,⟨nd,rfl⟩⟩;refine ⟨_,rfl,?_⟩)|((with_reducible refine gate_dst (N := 69) rfl ?_);refine Kd.R_lit (Kd.int .u8) _ 5 ?hg (N := 69) ?hd (xs := ([2,4,0] : List Int)) (inner := [.int .u8 2,.int .u8 4,.int .u8 0]) (ok := fun _ => True) (okp := fun _ => True) ?hr ?hp (fun _ hk => hk) trivial (Below.refl _ _) (Nat.le_refl _) (by simp) ?_;(case hd => rfl);(case hg => rfl);(case hr => first|(go_simp;done)|(go_simp;rfl));(case hp => exact (Reps.one (show Kd.M (Kd.int .u8) _ _ _ 2 [.int .u8 2] from rfl) (Reps.one (show Kd.M (Kd.int .u8) _ _ _ 4 [.int .u8 4] from rfl) (Reps.one (show Kd.M (Kd.int .u8) _ _ _ 0 [.int .u8 0] from rfl) (Reps.none _ _)))));intro cr cD aG hb hg_ hnew_;clear hg_ hnew_;(first|rw [← aP.out] at aG|(simp only [Int.reduceToNat] at aG;rw [← aP.out] at aG));have aH := aK (Kd.R_lower (Kd.R_new' (Kd.R_new' (Kd.R_new' (Kd.R_new' (Kd.R_new' (Kd.R_new' (Kd.R_new' (Kd.R_new' (Kd.R_new' aG (Kd.R_lt (rM aa.out))) (Kd.R_lt (rM ab.out))) (Kd.R_lt (rM ac.out))) (Kd.R_lt (rM af.out))) (Kd.R_lt (rM ah.out))) (Kd.R_lt (rM aj.out))) (Kd.R_lt (rM al.out))) (Kd.R_lt (rM aq.out))) (Kd.R_lt (rM aB.out))) (below_size (bM HB.out)));replace HB := aK (below_step (bM HB.out) hb);clear hb aG;obtain ⟨bE,bF,bH⟩ := Kd.R_slice aH.out;subst bH)|((with_reducible refine gate_callee (f := 27) rfl ?_);refine gL 70 Try.func27 #[.slice bE aU.length bF,.int .i64 0,.int .i64 5] ?_;(with_reducible refine (varint_GetList.calls k _ _ aU 0 5 bj bk a2 _ ?ad ?ae cg.out).mono ?_);(case ad => exact cM (Kd.R_reads' aH.out).2.2);(case ae => exact (Kd.R_reads' aH.out).2.1);rintro e cE ⟨cs,rfl,ak,hb⟩;refine ⟨_,rfl,?_⟩;replace HB := aK (below_step (bM HB.out) hb);(try clear hb);(try clear hk);(try clear ak)))
  go_ret
  exact ⟨by first|rfl|(simp [errW_none,errW_some] <;> rfl)|(simp [*,errW_none,errW_some] <;> rfl),bM HB.out⟩
 ·rw [if_neg c2] at H
  exact absurd H (by simp)

/-! ### varint_GetString: function 25 -/
def varint_GetString.f (k : Nat) (l0 : List Int) (a1 : Int) (a2 : Int) : Option (ByteArray × Int × Int) := (varint_Get.f k l0 a1).bind fun aa => (if aa.2.2 = 0 then (if aa.1 > a2 then (some ((⟨#[]⟩ : ByteArray), 0, 4)) else (if (wrap64 ((l0.length : Int) - aa.2.1)) < aa.1 then (some ((⟨#[]⟩ : ByteArray), 0, 5)) else (if 0 ≤ aa.2.1 then (if aa.2.1 ≤ (wrap64 (aa.2.1 + aa.1)) then (if (wrap64 (aa.2.1 + aa.1)) ≤ (l0.length : Int) then (some (strOfNums ((l0.take ((wrap64 (aa.2.1 + aa.1)) : Int).toNat).drop (aa.2.1 : Int).toNat), wrap64 (aa.2.1 + aa.1), 0)) else (none)) else (none)) else (none)))) else (some ((⟨#[]⟩ : ByteArray), 0, aa.2.2)))
theorem varint_GetString.mono : ∀ a0 a1 a2 k, LeO (varint_GetString.f k a0 a1 a2) (varint_GetString.f (k + 1) a0 a1 a2) := by
 intro a0 a1 a2 k
 unfold varint_GetString.f
 repeat' (with_reducible first|exact varint_Get.mono _ _ _|exact LeO.refl _|exact LeO.none _|refine LeO.ite ?_ ?_|refine LeO.bind ?_ (fun _ => ?_))
theorem varint_GetString.calls (k : Nat) (A0 : Option Addr) (c0 : Nat) (l0 : List Int) (a1 : Int) (a2 : Int) (r1 : ByteArray) (r2 : Int) (r3 : Int) (w : World) (az : Kd.C (Kd.int .u8) w A0 l0.length l0) (aA : l0.length ≤ c0) (h : varint_GetString.f k l0 a1 a2 = some (r1, r2, r3)) :
  Calls Try.prog 25 #[.slice A0 l0.length c0,.int .i64 a1,.int .i64 a2] w fun e w' => e = .returned (.tuple #[.string r1,.int .i64 r2,.int .i64 r3]) ∧ Drawn0 w w' := by
 have am := aK az
 have an := aK aA
 clear az aA
 have H : ((varint_Get.f k l0 a1).bind fun aa => (if aa.2.2 = 0 then (if aa.1 > a2 then (some ((⟨#[]⟩ : ByteArray),0,4)) else (if (wrap64 ((l0.length : Int) - aa.2.1)) < aa.1 then (some ((⟨#[]⟩ : ByteArray),0,5)) else (if 0 ≤ aa.2.1 then (if aa.2.1 ≤ (wrap64 (aa.2.1 + aa.1)) then (if (wrap64 (aa.2.1 + aa.1)) ≤ (l0.length : Int) then (some (strOfNums ((l0.take ((wrap64 (aa.2.1 + aa.1)) : Int).toNat).drop (aa.2.1 : Int).toNat),wrap64 (aa.2.1 + aa.1),0)) else (none)) else (none)) else (none)))) else (some ((⟨#[]⟩ : ByteArray),0,aa.2.2)))) = some (r1,r2,r3) := h
 clear h
 replace H := Option.bind_eq_some_iff.mp H
 obtain ⟨⟨ac,ab,af⟩,aB,H⟩ := H
 replace H : (if af = 0 then (if ac > a2 then (some ((⟨#[]⟩ : ByteArray),0,4)) else (if (wrap64 ((l0.length : Int) - ab)) < ac then (some ((⟨#[]⟩ : ByteArray),0,5)) else (if 0 ≤ ab then (if ab ≤ (wrap64 (ab + ac)) then (if (wrap64 (ab + ac)) ≤ (l0.length : Int) then (some (strOfNums ((l0.take ((wrap64 (ab + ac)) : Int).toNat).drop (ab : Int).toNat),wrap64 (ab + ac),0)) else (none)) else (none)) else (none)))) else (some ((⟨#[]⟩ : ByteArray),0,af))) = some (r1,r2,r3) := H
 have A4 := aK aB
 clear aB
 by_cases c5 : af = 0
 ·rw [if_pos c5] at H
  have au := beq_iff_eq.mpr c5
  have av := bne_eq_false_iff_eq.mpr c5
  clear c5
  by_cases c6 : ac > a2
  ·rw [if_pos c6] at H
   have aw := decide_eq_true c6
   clear c6
   simp only [Option.some.injEq,Prod.mk.injEq] at H
   obtain ⟨rfl,rfl,rfl⟩ := H
   go_enter Try.func25,Try.ntmps25
   go_wp2_with (first|((with_reducible refine gate_callee (f := 21) rfl ?_);refine gL 15 Try.func21 #[.slice A0 l0.length c0,.int .i64 a1] ?_;(with_reducible refine (varint_Get.calls k _ _ l0 a1 ac ab af _ ?ad ?ae A4.out).mono ?_);(case ad => exact cM am.out);(case ae => exact an.out);rintro e w' ⟨rfl,⟨nd,rfl⟩⟩;refine ⟨_,rfl,?_⟩))
   go_ret3
   exact ⟨by first|rfl|(simp;done)|(simp [*];done),by repeat (first|exact Drawn0.refl _|apply Drawn0.step)⟩
  ·rw [if_neg c6] at H
   have aw := decide_eq_false c6
   clear c6
   by_cases c7 : (wrap64 ((l0.length : Int) - ab)) < ac
   ·rw [if_pos c7] at H
    have ax := decide_eq_true c7
    clear c7
    simp only [Option.some.injEq,Prod.mk.injEq] at H
    obtain ⟨rfl,rfl,rfl⟩ := H
    go_enter Try.func25,Try.ntmps25
    go_wp2_with (first|((with_reducible refine gate_callee (f := 21) rfl ?_);refine gL 15 Try.func21 #[.slice A0 l0.length c0,.int .i64 a1] ?_;(with_reducible refine (varint_Get.calls k _ _ l0 a1 ac ab af _ ?ad ?ae A4.out).mono ?_);(case ad => exact cM am.out);(case ae => exact an.out);rintro e w' ⟨rfl,⟨nd,rfl⟩⟩;refine ⟨_,rfl,?_⟩))
    go_ret3
    exact ⟨by first|rfl|(simp;done)|(simp [*];done),by repeat (first|exact Drawn0.refl _|apply Drawn0.step)⟩
   ·rw [if_neg c7] at H
    have ax := decide_eq_false c7
    clear c7
    obtain ⟨c8,H⟩ := iS H
    have aG := eq_true c8
    have aH := decide_eq_true c8
    clear c8
    obtain ⟨c9,H⟩ := iS H
    have aI := eq_true c9
    have aJ := decide_eq_true c9
    obtain ⟨c10,H⟩ := iS H
    have aC := eq_true c10
    have aD := decide_eq_true c10
    simp only [Option.some.injEq,Prod.mk.injEq] at H
    obtain ⟨rfl,rfl,rfl⟩ := H
    go_enter Try.func25,Try.ntmps25
    go_wp2_with (first|((with_reducible refine gate_callee (f := 21) rfl ?_);refine gL 15 Try.func21 #[.slice A0 l0.length c0,.int .i64 a1] ?_;(with_reducible refine (varint_Get.calls k _ _ l0 a1 ac ab af _ ?ad ?ae A4.out).mono ?_);(case ad => exact cM am.out);(case ae => exact an.out);rintro e w' ⟨rfl,⟨nd,rfl⟩⟩;refine ⟨_,rfl,?_⟩;obtain ⟨aL,ag,_,ah,_⟩ := info_parts info5;obtain ⟨aE,ay,ao,ap⟩ := print_mid_of (P := Try.prog) (Value.int .u8) 0 22 5 .i64 .i64 Try.underlying22 ag ah A0 c0 l0 ab (wrap64 (ab + ac)) (dA) (by first|omega|exact dA) (dA) an.out;have ai := aK (Kd.C_of_reads (h1 := fun _ => rfl) (ao _ (Kd.reads_of_C am.out)));have aF := aK ap;clear ao ap ag ah;have aq := Kd.C_string (P := Try.prog) (A := aE) (c := (c0 - ab.toNat)) Try.underlying22 Try.underlying5 Try.underlying9 ai.out;have aj := fun n_ : Nat => Kd.C_string (P := Try.prog) (A := aE) (c := (c0 - ab.toNat)) Try.underlying22 Try.underlying5 Try.underlying9 (Kd.C_drewN ai.out n_);(try (have ar : ((l0.take ((wrap64 (ab + ac)) : Int).toNat).drop (ab : Int).toNat).length = ((wrap64 (ab + ac)) : Int).toNat - (ab : Int).toNat := (by rw [z7_,z8_,Nat.min_eq_left (by simp only [decide_eq_true_eq,eq_iff_iff,iff_true] at *;omega)]);have ak := aq;have al := aj;simp only [ar] at ak al;clear ar))))
    go_ret3
    exact ⟨by first|rfl|(simp;done)|(simp [*];done),by repeat (first|exact Drawn0.refl _|apply Drawn0.step)⟩
 ·rw [if_neg c5] at H
  have au := beq_eq_false_iff_ne.mpr c5
  have av := bne_iff_ne.mpr c5
  simp only [Option.some.injEq,Prod.mk.injEq] at H
  obtain ⟨rfl,rfl,rfl⟩ := H
  go_enter Try.func25,Try.ntmps25
  go_wp2_with (first|((with_reducible refine gate_callee (f := 21) rfl ?_);refine gL 15 Try.func21 #[.slice A0 l0.length c0,.int .i64 a1] ?_;(with_reducible refine (varint_Get.calls k _ _ l0 a1 ac ab af _ ?ad ?ae A4.out).mono ?_);(case ad => exact cM am.out);(case ae => exact an.out);rintro e w' ⟨rfl,⟨nd,rfl⟩⟩;refine ⟨_,rfl,?_⟩))
  go_ret3
  exact ⟨by first|rfl|(simp;done)|(simp [*];done),by repeat (first|exact Drawn0.refl _|apply Drawn0.step)⟩
end Go.Proofs.Ytihfpmociffpeaa.O
