import Derived.Test.YtmgliocboeifdaaGreatDoorFx0
import Derived.Test.YtmgliocboeifdaaGreatDoorFx9
namespace Go.Proofs.YtmgliocboeifdaaGreatDoor.F
open Go.RowKit Go.Proofs.YtmgliocboeifdaaGreatDoorW.PrintWords Go.Proofs.YtmgliocboeifdaaGreatDoorW.PrintLast Go.Proofs.YtmgliocboeifdaaGreatDoorW.PrintMore
set_option maxHeartbeats 4000000
set_option maxRecDepth 100000
attribute [local go_sem] max2_int min2_int max_two min_two max_three min_three max_four min_four
set_option linter.unusedVariables false
set_option linter.unusedSimpArgs false
mutual
def varint_PutList.l0 : Nat → List Int → List Int → Int → Int → Option (List Int × Int)
|0,_,_,_,_ => none
|k + 1,x0,x1,ab,aa => if aa < ab then (if 0 ≤ aa then (if aa < (x1.length : Int) then (if (rd x1 aa) < 0 then (some (([] : List Int),1)) else (if aa > 0 then (if 0 ≤ (wrap64 (aa - 1)) then (if (wrap64 (aa - 1)) < (x1.length : Int) then (if (rd x1 (wrap64 (aa - 1))) ≥ (rd x1 aa) then (some (([] : List Int),1)) else (varint_PutList.l0 k x0 x1 ab (wrap64 (aa + 1)))) else (none)) else (none)) else (varint_PutList.l0 k x0 x1 ab (wrap64 (aa + 1))))) else (none)) else (none)) else ((varint_Put.f x0 (x1.length : Int)).bind fun ac => (varint_PutList.l1 k x1 ac 0 (x1.length : Int) 0))
def varint_PutList.l1 : Nat → List Int → List Int → Int → Int → Int → Option (List Int × Int)
|0,_,_,_,_,_ => none
|k + 1,x1,x7,x8,ac,aa => if aa < ac then (if 0 ≤ aa then (if aa < (x1.length : Int) then ((varint_Put.f x7 (wrap64 ((rd x1 aa) - x8))).bind fun ab => (varint_PutList.l1 k x1 ab (rd x1 aa) ac (wrap64 (aa + 1)))) else (none)) else (none)) else (some (x7,0))
end
def varint_PutList.f (k : Nat) (l0 : List Int) (l1 : List Int) : Option (List Int × Int) := varint_PutList.l0 k l0 l1 (l1.length : Int) 0
theorem varint_PutList.mono_l : ∀ k, (∀ y0 y1 y2 y3, LeO (varint_PutList.l0 k y0 y1 y2 y3) (varint_PutList.l0 (k + 1) y0 y1 y2 y3)) ∧ (∀ y0 y1 y2 y3 y4, LeO (varint_PutList.l1 k y0 y1 y2 y3 y4) (varint_PutList.l1 (k + 1) y0 y1 y2 y3 y4))
|0 => ⟨fun _ _ _ _ r h => by simp [varint_PutList.l0] at h,fun _ _ _ _ _ r h => by simp [varint_PutList.l1] at h⟩
|k + 1 => by
  obtain ⟨ih0,ih1⟩ := varint_PutList.mono_l k
  refine ⟨?_,?_⟩
  ·intro y0 y1 y2 y3
   unfold varint_PutList.l0
   repeat' (with_reducible first|exact ih0 _ _ _ _|exact ih1 _ _ _ _ _|exact LeO.refl _|exact LeO.none _|refine LeO.ite ?_ ?_|refine LeO.bind ?_ (fun _ => ?_))
  ·intro y0 y1 y2 y3 y4
   unfold varint_PutList.l1
   repeat' (with_reducible first|exact ih1 _ _ _ _ _|exact LeO.refl _|exact LeO.none _|refine LeO.ite ?_ ?_|refine LeO.bind ?_ (fun _ => ?_))
theorem varint_PutList.mono : ∀ a0 a1 k, LeO (varint_PutList.f k a0 a1) (varint_PutList.f (k + 1) a0 a1) := by
 intro a0 a1 k
 obtain ⟨ih0,ih1⟩ := varint_PutList.mono_l k
 unfold varint_PutList.f
 repeat' (with_reducible first|exact ih0 _ _ _ _|exact ih1 _ _ _ _ _|exact LeO.refl _|exact LeO.none _|refine LeO.ite ?_ ?_|refine LeO.bind ?_ (fun _ => ?_))
theorem varint_PutList.calls (k : Nat) (A0 : Option Addr) (c0 : Nat) (l0 : List Int) (A1 : Option Addr) (c1 : Nat) (l1 : List Int) (r1 : List Int) (r2 : Int) (w : World) (a8 : Kd.C (Kd.int .u8) w A0 l0.length l0) (a9 : l0.length ≤ c0) (ba : Kd.C (Kd.int .i64) w A1 l1.length l1) (bb : l1.length ≤ c1) (h : varint_PutList.f k l0 l1 = some (r1, r2)) :
  Calls Tryz.prog 60 #[.slice A0 l0.length c0,.slice A1 l1.length c1] w fun e w' => ∃ bc : Value,e = .returned (.tuple #[bc,.int .i64 r2]) ∧ Kd.R (Kd.int .u8) 5 w' w.heap.size (fun _ => True) bc r1 ∧ Below w.heap.size w w' := by
 have a0 := aK a8
 have a1 := aK a9
 clear a8 a9
 have aA := aK ba
 have bv := aK bb
 clear ba bb
 have HB := aK (Below.refl w.heap.size w)
 have H : (varint_PutList.l0 k l0 l1 (l1.length : Int) 0) = some (r1,r2) := h
 clear h
 have H' := aK H
 clear H
 go_enter Tryz.func60,Tryz.ntmps60
 go_wp2
 repeat (go_quiet (fail);try go_wp2)
 go_loopg [12] k (fun kq bn w' => ∃ (aa : Int),bn = .int .i64 aa ∧ Aside0 (varint_PutList.l0 kq l0 l1 (l1.length : Int) aa = some (r1,r2)) ∧ Aside0 (kq ≤ k) ∧ Aside0 (Below w.heap.size w w'))
 case atStart => exact ⟨(0),(by first|rfl|(simp;done)|(simp [*];done)),H',⟨Nat.le_refl _⟩,⟨bM HB.out⟩⟩
 case round =>
  clear H'
  try clear p2
  obtain ⟨aa,rfl,HA,aQ,HB⟩ := hrel
  cases gk with
 |zero => exact absurd HA.out (by simp [varint_PutList.l0])
 |succ k1 =>
   have H := HA.out
   clear HA
   simp only [varint_PutList.l0] at H
   by_cases c3 : aa < (l1.length : Int)
   ·rw [if_pos c3] at H
    have aT := decide_eq_true c3
    clear c3
    obtain ⟨c4,H⟩ := iS H
    have bo := decide_eq_true c4
    clear c4
    obtain ⟨c5,H⟩ := iS H
    have bp := decide_eq_true c5
    clear c5
    by_cases c6 : (rd l1 aa) < 0
    ·rw [if_pos c6] at H
     have a2 := decide_eq_true c6
     clear c6
     simp only [Option.some.injEq,Prod.mk.injEq] at H
     obtain ⟨rfl,rfl⟩ := H
     have aj : 0 ≤ (aa : Int) := dA
     have ak : aa < (l1.length : Int) := dA
     obtain ⟨al,aw,ac⟩ := Kd.at_int aA.out aa aj ak
     cases aw
     replace ac := xM HB ac
     replace aj := eq_true aj
     replace ak := eq_true ak
     go_wp2
     repeat (go_quiet (fail);try go_wp2)
     go_ret2
     exact ⟨_,by first|rfl|(simp [errW_none,errW_some] <;> rfl)|(simp [*,errW_none,errW_some] <;> rfl),by first|exact Kd.R_nil _ _ _ _ _|exact Kd.N_nil _ _ _ _ _|exact Kd.V_nil _ _ _ _ _|exact Kd.Q_nil _ _ _ _ _|exact Kd.S_nil _ _ _ _ _,bM HB.out⟩
    ·rw [if_neg c6] at H
     have a2 := decide_eq_false c6
     clear c6
     by_cases c7 : aa > 0
     ·rw [if_pos c7] at H
      have a3 := decide_eq_true c7
      clear c7
      obtain ⟨aB,aI⟩ : ∃ j_ : Int,(wrap64 (aa - 1)) = j_ := ⟨_,rfl⟩
      replace H : (if 0 ≤ (aB) then (if (aB) < (l1.length : Int) then (if (rd l1 (aB)) ≥ (rd l1 aa) then (some (([] : List Int),1)) else (varint_PutList.l0 k1 l0 l1 (l1.length : Int) (wrap64 (aa + 1)))) else (none)) else (none)) = some (r1,r2) := by first|(rw [aI] at H;exact H)|(simp only [aI] at H ⊢;exact H)
      have bd : (IntKind.i64.wrap (aa - 1)) = aB := (i64_w _).trans aI
      obtain ⟨c9,H⟩ := iS H
      have bq := decide_eq_true c9
      clear c9
      obtain ⟨c10,H⟩ := iS H
      have be := decide_eq_true c10
      clear c10
      by_cases aR : (rd l1 (aB)) ≥ (rd l1 aa)
      ·rw [if_pos aR] at H
       have aU := decide_eq_true aR
       clear aR
       simp only [Option.some.injEq,Prod.mk.injEq] at H
       obtain ⟨rfl,rfl⟩ := H
       have aj : 0 ≤ (aa : Int) := dA
       have ak : aa < (l1.length : Int) := dA
       obtain ⟨al,aw,ac⟩ := Kd.at_int aA.out aa aj ak
       cases aw
       replace ac := xM HB ac
       replace aj := eq_true aj
       replace ak := eq_true ak
       have ap : 0 ≤ ((aB) : Int) := dA
       have aq : (aB) < (l1.length : Int) := dA
       obtain ⟨aC,aM,ah⟩ := Kd.at_int aA.out (aB) ap aq
       obtain rfl : al = aC := (by injection aM)
       replace ah := xM HB ah
       replace ap := eq_true ap
       replace aq := eq_true aq
       have ar : 0 ≤ (aa : Int) := dA
       have au : aa < (l1.length : Int) := dA
       obtain ⟨aD,aN,ai⟩ := Kd.at_int aA.out aa ar au
       obtain rfl : al = aD := (by injection aN)
       replace ai := xM HB ai
       replace ar := eq_true ar
       replace au := eq_true au
       go_wp2
       repeat (go_quiet (fail);try go_wp2)
       go_ret2
       exact ⟨_,by first|rfl|(simp [errW_none,errW_some] <;> rfl)|(simp only [← aI];first|rfl|(simp [errW_none,errW_some] <;> rfl))|(simp [*,errW_none,errW_some] <;> rfl),by first|exact Kd.R_nil _ _ _ _ _|exact Kd.N_nil _ _ _ _ _|exact Kd.V_nil _ _ _ _ _|exact Kd.Q_nil _ _ _ _ _|exact Kd.S_nil _ _ _ _ _,bM HB.out⟩
      ·rw [if_neg aR] at H
       have aU := decide_eq_false aR
       clear aR
       have H' := aK H
       clear H
       have aj : 0 ≤ (aa : Int) := dA
       have ak : aa < (l1.length : Int) := dA
       obtain ⟨al,aw,ac⟩ := Kd.at_int aA.out aa aj ak
       cases aw
       replace ac := xM HB ac
       replace aj := eq_true aj
       replace ak := eq_true ak
       have ap : 0 ≤ ((aB) : Int) := dA
       have aq : (aB) < (l1.length : Int) := dA
       obtain ⟨aC,aM,ah⟩ := Kd.at_int aA.out (aB) ap aq
       obtain rfl : al = aC := (by injection aM)
       replace ah := xM HB ah
       replace ap := eq_true ap
       replace aq := eq_true aq
       have ar : 0 ≤ (aa : Int) := dA
       have au : aa < (l1.length : Int) := dA
       obtain ⟨aD,aN,ai⟩ := Kd.at_int aA.out aa ar au
       obtain rfl : al = aD := (by injection aN)
       replace ai := xM HB ai
       replace ar := eq_true ar
       replace au := eq_true au
       go_wp2
       repeat (go_quiet (fail);try go_wp2)
       go_roundg k1
       case measure => have := aQ.out;omega
       case rel => exact ⟨(wrap64 (aa + 1)),(by first|rfl|(simp;done)|(simp [*];done)),H',⟨by have := aQ.out;omega⟩,⟨bM HB.out⟩⟩
     ·rw [if_neg c7] at H
      have a3 := decide_eq_false c7
      clear c7
      have H' := aK H
      clear H
      have aj : 0 ≤ (aa : Int) := dA
      have ak : aa < (l1.length : Int) := dA
      obtain ⟨al,aw,ac⟩ := Kd.at_int aA.out aa aj ak
      cases aw
      replace ac := xM HB ac
      replace aj := eq_true aj
      replace ak := eq_true ak
      go_wp2
      repeat (go_quiet (fail);try go_wp2)
      go_roundg k1
      case measure => have := aQ.out;omega
      case rel => exact ⟨(wrap64 (aa + 1)),(by first|rfl|(simp;done)|(simp [*];done)),H',⟨by have := aQ.out;omega⟩,⟨bM HB.out⟩⟩
   ·rw [if_neg c3] at H
    have aT := decide_eq_false c3
    clear c3
    replace H := Option.bind_eq_some_iff.mp H
    obtain ⟨aJ,aV,H⟩ := H
    have a4 := aK aV
    clear aV
    have H' := aK H
    clear H
    go_wp2_with (first|(go_at_call 41;(with_reducible refine (varint_Put.calls _ _ l0 (l1.length : Int) aJ _ ?ae ?af a4.out).mono ?_);(case ae => exact cM (Kd.C_below a0.out HB.out));(case af => exact a1.out);rintro e bf ⟨aW,rfl,ao,hb⟩;have aE := aK (Kd.R_lower ao (below_size (bM HB.out)));replace HB := aK (below_step (bM HB.out) hb);(try clear hb);(try clear hk);(try clear ao)))
    repeat (go_quiet (first|(go_at_call 41;(with_reducible refine (varint_Put.calls _ _ l0 (l1.length : Int) aJ _ ?ae ?af a4.out).mono ?_);(case ae => exact cM (Kd.C_below a0.out HB.out));(case af => exact a1.out);rintro e bf ⟨aW,rfl,ao,hb⟩;have aE := aK (Kd.R_lower ao (below_size (bM HB.out)));replace HB := aK (below_step (bM HB.out) hb);(try clear hb);(try clear hk);(try clear ao)));try go_wp2_with (first|(go_at_call 41;(with_reducible refine (varint_Put.calls _ _ l0 (l1.length : Int) aJ _ ?ae ?af a4.out).mono ?_);(case ae => exact cM (Kd.C_below a0.out HB.out));(case af => exact a1.out);rintro e bf ⟨aW,rfl,ao,hb⟩;have aE := aK (Kd.R_lower ao (below_size (bM HB.out)));replace HB := aK (below_step (bM HB.out) hb);(try clear hb);(try clear hk);(try clear ao))))
    go_loopg [7,8,43] k1 (fun kq v7 v8 br w' => ∃ (ay : List Int) (az : Int) (ab : Int),v8 = .int .i64 az ∧ br = .int .i64 ab ∧ Aside0 (varint_PutList.l1 kq l1 ay az (l1.length : Int) ab = some (r1,r2)) ∧ Aside0 (kq ≤ k1) ∧ Aside0 (Kd.R (Kd.int .u8) 5 w' w.heap.size (fun _ => True) v7 ay) ∧ Aside0 (Below w.heap.size w w'))
    case atStart => exact ⟨(aJ),(0),(0),(by first|rfl|(simp;done)|(simp [*];done)),(by first|rfl|(simp;done)|(simp [*];done)),H',⟨Nat.le_refl _⟩,⟨rM aE.out⟩,⟨bM HB.out⟩⟩
    case round =>
     clear H'
     try clear p2
     try clear q2
     try clear hx2
     try clear c3
     try clear aT
     try clear p6
     try clear ac
     try clear ah
     try clear ai
     try clear p2
     try clear aj
     try clear ap
     try clear ar
     try clear ak
     try clear aq
     try clear au
     obtain ⟨ay,az,ab,rfl,rfl,HA,bg,ag,HB⟩ := hrel
     cases gk with
    |zero => exact absurd HA.out (by simp [varint_PutList.l1])
    |succ k2 =>
      have H := HA.out
      clear HA
      simp only [varint_PutList.l1] at H
      by_cases aS : ab < (l1.length : Int)
      ·rw [if_pos aS] at H
       have aX := decide_eq_true aS
       clear aS
       obtain ⟨bh,H⟩ := iS H
       have bi := decide_eq_true bh
       clear bh
       obtain ⟨bj,H⟩ := iS H
       have bk := decide_eq_true bj
       clear bj
       replace H := Option.bind_eq_some_iff.mp H
       obtain ⟨aL,aY,H⟩ := H
       have a5 := aK aY
       clear aY
       have H' := aK H
       clear H
       have aO : 0 ≤ (ab : Int) := dA
       have aP : ab < (l1.length : Int) := dA
       obtain ⟨aF,a6,ax⟩ := Kd.at_int aA.out ab aO aP
       cases a6
       replace ax := xM HB ax
       replace aO := eq_true aO
       replace aP := eq_true aP
       obtain ⟨bs,bu,a7⟩ := Kd.R_slice ag.out
       subst a7
       go_wp2_with (first|(go_at_call 41;(with_reducible refine (varint_Put.calls _ _ ay (wrap64 ((rd l1 ab) - az)) aL _ ?ae ?af a5.out).mono ?_);(case ae => exact cM (Kd.R_reads' ag.out).2.2);(case af => exact (Kd.R_reads' ag.out).2.1);rintro e bm ⟨aZ,rfl,ao,hb⟩;have aG := aK (Kd.R_lower (Kd.R_new' ao (Kd.R_lt (rM ag.out))) (below_size (bM HB.out)));replace ag := aK (Kd.R_elder' (rM ag.out) (Kd.R_base ao) hb);replace HB := aK (below_step (bM HB.out) hb);(try clear hb);(try clear hk);(try clear ao);have am : 0 ≤ (ab : Int) := dA;have an : ab < (l1.length : Int) := dA;obtain ⟨av,aH,ad⟩ := Kd.at_int aA.out ab am an;obtain rfl : aF = av := (by injection aH);replace ad := xM HB ad;replace am := eq_true am;replace an := eq_true an))
       repeat (go_quiet (first|(go_at_call 41;(with_reducible refine (varint_Put.calls _ _ ay (wrap64 ((rd l1 ab) - az)) aL _ ?ae ?af a5.out).mono ?_);(case ae => exact cM (Kd.R_reads' ag.out).2.2);(case af => exact (Kd.R_reads' ag.out).2.1);rintro e bm ⟨aZ,rfl,ao,hb⟩;have aG := aK (Kd.R_lower (Kd.R_new' ao (Kd.R_lt (rM ag.out))) (below_size (bM HB.out)));replace ag := aK (Kd.R_elder' (rM ag.out) (Kd.R_base ao) hb);replace HB := aK (below_step (bM HB.out) hb);(try clear hb);(try clear hk);(try clear ao);have am : 0 ≤ (ab : Int) := dA;have an : ab < (l1.length : Int) := dA;obtain ⟨av,aH,ad⟩ := Kd.at_int aA.out ab am an;obtain rfl : aF = av := (by injection aH);replace ad := xM HB ad;replace am := eq_true am;replace an := eq_true an));try go_wp2_with (first|(go_at_call 41;(with_reducible refine (varint_Put.calls _ _ ay (wrap64 ((rd l1 ab) - az)) aL _ ?ae ?af a5.out).mono ?_);(case ae => exact cM (Kd.R_reads' ag.out).2.2);(case af => exact (Kd.R_reads' ag.out).2.1);rintro e bm ⟨aZ,rfl,ao,hb⟩;have aG := aK (Kd.R_lower (Kd.R_new' ao (Kd.R_lt (rM ag.out))) (below_size (bM HB.out)));replace ag := aK (Kd.R_elder' (rM ag.out) (Kd.R_base ao) hb);replace HB := aK (below_step (bM HB.out) hb);(try clear hb);(try clear hk);(try clear ao);have am : 0 ≤ (ab : Int) := dA;have an : ab < (l1.length : Int) := dA;obtain ⟨av,aH,ad⟩ := Kd.at_int aA.out ab am an;obtain rfl : aF = av := (by injection aH);replace ad := xM HB ad;replace am := eq_true am;replace an := eq_true an)))
       go_roundg k2
       case measure => have := aQ.out;have := bg.out;omega
       case rel => exact ⟨(aL),(rd l1 ab),(wrap64 (ab + 1)),(by first|rfl|(simp;done)|(simp [*];done)),(by first|rfl|(simp;done)|(simp [*];done)),H',⟨by have := aQ.out;have := bg.out;omega⟩,⟨rM (Kd.R_mono aG.out (fun _ hk => trivial))⟩,⟨bM HB.out⟩⟩
      ·rw [if_neg aS] at H
       have aX := decide_eq_false aS
       clear aS
       simp only [Option.some.injEq,Prod.mk.injEq] at H
       obtain ⟨rfl,rfl⟩ := H
       go_wp2
       repeat (go_quiet (fail);try go_wp2)
       go_ret2
       exact ⟨_,by first|rfl|(simp [errW_none,errW_some] <;> rfl)|(simp [*,errW_none,errW_some] <;> rfl),rM ag.out,bM HB.out⟩
def manifest_list.f (k : Nat) (l0 : List Int) (l1 : List Int) : Option (List Int) := (varint_PutList.f k l0 l1).bind fun aa => (if aa.2 = 0 then (some aa.1) else ((varint_Put.f l0 0).bind fun ab => (some ab)))
theorem manifest_list.mono : ∀ a0 a1 k, LeO (manifest_list.f k a0 a1) (manifest_list.f (k + 1) a0 a1) := by
 intro a0 a1 k
 unfold manifest_list.f
 repeat' (with_reducible first|exact varint_PutList.mono _ _ _|exact LeO.refl _|exact LeO.none _|refine LeO.ite ?_ ?_|refine LeO.bind ?_ (fun _ => ?_))
theorem manifest_list.calls (k : Nat) (A0 : Option Addr) (c0 : Nat) (l0 : List Int) (A1 : Option Addr) (c1 : Nat) (l1 : List Int) (r : List Int) (w : World) (aq : Kd.C (Kd.int .u8) w A0 l0.length l0) (ar : l0.length ≤ c0) (au : Kd.C (Kd.int .i64) w A1 l1.length l1) (av : l1.length ≤ c1) (h : manifest_list.f k l0 l1 = some r) :
  Calls Tryz.prog 42 #[.slice A0 l0.length c0,.slice A1 l1.length c1] w fun e w' => ∃ aw : Value,e = .returned (aw) ∧ Kd.R (Kd.int .u8) 5 w' w.heap.size (fun _ => True) aw r ∧ Below w.heap.size w w' := by
 have al := aK aq
 have am := aK ar
 clear aq ar
 have ax := aK au
 have ay := aK av
 clear au av
 have HB := aK (Below.refl w.heap.size w)
 have H : ((varint_PutList.f k l0 l1).bind fun ah => (if ah.2 = 0 then (some ah.1) else ((varint_Put.f l0 0).bind fun ac => (some ac)))) = some r := h
 clear h
 replace H := Option.bind_eq_some_iff.mp H
 obtain ⟨⟨aj,ag⟩,az,H⟩ := H
 replace H : (if ag = 0 then (some aj) else ((varint_Put.f l0 0).bind fun ac => (some ac))) = some r := H
 have A3 := aK az
 clear az
 by_cases c4 : ag = 0
 ·rw [if_pos c4] at H
  have an := beq_iff_eq.mpr c4
  have ao := bne_eq_false_iff_eq.mpr c4
  clear c4
  obtain rfl := Option.some.inj H
  go_enter Tryz.func42,Tryz.ntmps42
  go_wp2_with (first|((with_reducible refine gate_callee (f := 60) rfl ?_);refine gL 10 Tryz.func60 #[.slice A0 l0.length c0,.slice A1 l1.length c1] ?_;(with_reducible refine (varint_PutList.calls k _ _ l0 _ _ l1 aj ag _ ?aa ?ab ?ad ?ae A3.out).mono ?_);(case aa => exact cM al.out);(case ab => exact am.out);(case ad => exact cM ax.out);(case ae => exact ay.out);rintro e w5 ⟨ap,rfl,ai,hb⟩;refine ⟨_,rfl,?_⟩;have af := aK (Kd.R_lower ai (below_size (bM HB.out)));replace HB := aK (below_step (bM HB.out) hb);(try clear hb);(try clear hk);(try clear ai)))
  go_ret
  exact ⟨_,by first|rfl|(simp [errW_none,errW_some] <;> rfl)|(simp [*,errW_none,errW_some] <;> rfl),rM af.out,bM HB.out⟩
 ·rw [if_neg c4] at H
  have an := beq_eq_false_iff_ne.mpr c4
  have ao := bne_iff_ne.mpr c4
  replace H := Option.bind_eq_some_iff.mp H
  obtain ⟨ac,aA,H⟩ := H
  have A6 := aK aA
  clear aA
  obtain rfl := Option.some.inj H
  go_enter Tryz.func42,Tryz.ntmps42
  go_wp2_with (first|((with_reducible refine gate_callee (f := 60) rfl ?_);refine gL 10 Tryz.func60 #[.slice A0 l0.length c0,.slice A1 l1.length c1] ?_;(with_reducible refine (varint_PutList.calls k _ _ l0 _ _ l1 aj ag _ ?aa ?ab ?ad ?ae A3.out).mono ?_);(case aa => exact cM al.out);(case ab => exact am.out);(case ad => exact cM ax.out);(case ae => exact ay.out);rintro e w7 ⟨ap,rfl,ai,hb⟩;refine ⟨_,rfl,?_⟩;have af := aK (Kd.R_lower ai (below_size (bM HB.out)));replace HB := aK (below_step (bM HB.out) hb);(try clear hb);(try clear hk);(try clear ai))|((with_reducible refine gate_callee (f := 41) rfl ?_);refine gL 16 Tryz.func41 #[.slice A0 l0.length c0,.int .i64 0] ?_;(with_reducible refine (varint_Put.calls _ _ l0 0 ac _ ?aa ?ab A6.out).mono ?_);(case aa => exact cM (Kd.C_below al.out HB.out));(case ab => exact am.out);rintro e w8 ⟨aB,rfl,ai,hb⟩;refine ⟨_,rfl,?_⟩;have ak := aK (Kd.R_lower (Kd.R_new' ai (Kd.R_lt (rM af.out))) (below_size (bM HB.out)));replace HB := aK (below_step (bM HB.out) hb);(try clear hb);(try clear hk);(try clear ai)))
  go_ret
  exact ⟨_,by first|rfl|(simp [errW_none,errW_some] <;> rfl)|(simp [*,errW_none,errW_some] <;> rfl),rM (Kd.R_mono ak.out (fun _ hk => trivial)),bM HB.out⟩
def varint_PutString.f (l0 : List Int) (a1 : ByteArray) : Option (List Int) := (varint_Put.f l0 (a1.size : Int)).bind fun aa => (if aa.length + a1.size < 140737488355328 then (some (aa ++ bytesOf a1)) else (none))
theorem varint_PutString.calls (A0 : Option Addr) (c0 : Nat) (l0 : List Int) (a1 : ByteArray) (r : List Int) (w : World) (an : Kd.C (Kd.int .u8) w A0 l0.length l0) (ao : l0.length ≤ c0) (h : varint_PutString.f l0 a1 = some r) :
  Calls Tryz.prog 43 #[.slice A0 l0.length c0,.string a1] w fun e w' => ∃ ap : Value,e = .returned (ap) ∧ Kd.R (Kd.int .u8) 5 w' w.heap.size (fun _ => True) ap r ∧ Below w.heap.size w w' := by
 have ar := aK an
 have au := aK ao
 clear an ao
 have HB := aK (Below.refl w.heap.size w)
 have H : ((varint_Put.f l0 (a1.size : Int)).bind fun ab => (if ab.length + a1.size < 140737488355328 then (some (ab ++ bytesOf a1)) else (none))) = some r := h
 clear h
 replace H := Option.bind_eq_some_iff.mp H
 obtain ⟨ab,aq,H⟩ := H
 have A3 := aK aq
 clear aq
 by_cases c4 : ab.length + a1.size < 140737488355328
 ·rw [if_pos c4] at H
  have aj := aK c4
  clear c4
  obtain ⟨ac,aa⟩ : ∃ y_ : List Int,y_ = (ab ++ bytesOf a1) := ⟨_,rfl⟩
  replace H : (some ac) = some r := by first|(rw [aa];with_reducible exact H)|(have ak := (Option.bind_some _ _).symm.trans H;rw [aa];with_reducible exact ak)|(have ak := (Option.bind_some _ _).symm.trans H;with_reducible exact ak)|with_reducible exact H|(rw [aa];exact H)|exact H
  have ad := aK aa
  clear aa
  obtain rfl := Option.some.inj H
  go_enter Tryz.func43,Tryz.ntmps43
  go_wp2_with (first|((with_reducible refine gate_callee (f := 41) rfl ?_);refine gL 8 Tryz.func41 #[.slice A0 l0.length c0,.int .i64 (a1.size : Int)] ?_;(with_reducible refine (varint_Put.calls _ _ l0 (a1.size : Int) ab _ ?ae ?af A3.out).mono ?_);(case ae => exact cM ar.out);(case af => exact au.out);rintro e w5 ⟨al,rfl,ag,hb⟩;refine ⟨_,rfl,?_⟩;have ah := aK (Kd.R_lower ag (below_size (bM HB.out)));replace HB := aK (below_step (bM HB.out) hb);(try clear hb);(try clear ag))|(at_builtin;refine print_append_str (w0 := w) w.heap.size rfl (.tmp 8) _ 31 9 5 rfl Tryz.underlying31 Tryz.underlying9 info5 al ab a1 rfl rfl ?aO ?aB ?aS ?aL ?_;(case aB => exact (bM HB.out));(case aO => exact (Kd.own_of_R (rM ah.out)));(case aS => exact (below_size (bM HB.out)));(case aL => have := aj.out;omega);intro am w6 ag hb hg;have ho := Kd.R_of_own (h1 := fun _ => rfl) (ok := fun _ => True) ag (fun _ _ => trivial);clear ag;have hat := True.intro;rw [← ad.out] at ho;change Kd.R (Kd.int .u8) 5 w6 w.heap.size (fun _ => True) am ac at ho;replace HB := aK (hb);have ai := aK (ho);clear ho hb hg hat))
  go_ret
  exact ⟨_,by first|rfl|(simp [errW_none,errW_some] <;> rfl)|(simp [*,errW_none,errW_some] <;> rfl),rM ai.out,bM HB.out⟩
 ·rw [if_neg c4] at H
  exact absurd H (by simp)
def manifest_Encode.l0 : Nat → List Int → List ByteArray → Int → Int → Option (List Int)
|0,_,_,_,_ => none
|k + 1,x3,ab,ad,aa => if aa < ad then (if 0 ≤ aa then (if aa < (ab.length : Int) then ((varint_PutString.f x3 (rdOf ByteArray.empty ab aa)).bind fun ac => (manifest_Encode.l0 k ac ab ad (wrap64 (aa + 1)))) else (none)) else (none)) else (some x3)
def manifest_Encode.f (k : Nat) (ab : Int) (ac : Int) (ad : Int) (ae : List Int) (af : List Int) (aa : List ByteArray) : Option (List Int) := (varint_Put.f ([] : List Int) ab).bind fun ag => ((varint_Put.f ag ac).bind fun ah => ((varint_Put.f ah ad).bind fun ai => ((manifest_list.f k ai ae).bind fun aj => ((manifest_list.f k aj af).bind fun ak => ((varint_Put.f ak (aa.length : Int)).bind fun al => (manifest_Encode.l0 k al aa (aa.length : Int) 0))))))
theorem manifest_Encode.mono_l : ∀ k, (∀ y0 y1 y2 y3, LeO (manifest_Encode.l0 k y0 y1 y2 y3) (manifest_Encode.l0 (k + 1) y0 y1 y2 y3))
|0 => fun _ _ _ _ r h => by simp [manifest_Encode.l0] at h
|k + 1 => by
  have ih0 := manifest_Encode.mono_l k
  ·intro y0 y1 y2 y3
   unfold manifest_Encode.l0
   repeat' (with_reducible first|exact ih0 _ _ _ _|exact LeO.refl _|exact LeO.none _|refine LeO.ite ?_ ?_|refine LeO.bind ?_ (fun _ => ?_))
theorem manifest_Encode.mono : ∀ a0 a1 a2 a3 a4 a5 k, LeO (manifest_Encode.f k a0 a1 a2 a3 a4 a5) (manifest_Encode.f (k + 1) a0 a1 a2 a3 a4 a5) := by
 intro a0 a1 a2 a3 a4 a5 k
 have ih0 := manifest_Encode.mono_l k
 unfold manifest_Encode.f
 repeat' (with_reducible first|exact ih0 _ _ _ _|exact manifest_list.mono _ _ _|exact LeO.refl _|exact LeO.none _|refine LeO.ite ?_ ?_|refine LeO.bind ?_ (fun _ => ?_))
theorem manifest_Encode.calls (k : Nat) (ap : Int) (aq : Int) (ar : Int) (au : Option Addr) (av : Nat) (ak : List Int) (aw : Option Addr) (ax : Nat) (al : List Int) (aC : Option Addr) (aD : Nat) (ah : List ByteArray) (r : List Int) (w : World) (bW : Kd.C (Kd.int .i64) w au ak.length ak) (bX : ak.length ≤ av) (bY : Kd.C (Kd.int .i64) w aw al.length al) (bZ : al.length ≤ ax) (b0 : Kd.C Kd.string w aC ah.length ah) (b1 : ah.length ≤ aD) (h : manifest_Encode.f k ap aq ar ak al ah = some r) :
  Calls Tryz.prog 12 #[.agg #[.int .i64 ap,.int .i64 aq,.int .i64 ar,.slice au ak.length av,.slice aw al.length ax,.slice aC ah.length aD]] w fun e w' => ∃ cV : Value,e = .returned (cV) ∧ Kd.R (Kd.int .u8) 5 w' w.heap.size (fun _ => True) cV r ∧ Below w.heap.size w w' := by
 have di := Tryz.underlying30
 have cm := aK bW
 have cn := aK bX
 clear bW bX
 have co := aK bY
 have cp := aK bZ
 clear bY bZ
 have cq := aK b0
 have cW := aK b1
 clear b0 b1
 have HB := aK (Below.refl w.heap.size w)
 unfold manifest_Encode.f at h
 have H := h
 clear h
 replace H := Option.bind_eq_some_iff.mp H
 obtain ⟨b2,cX,H⟩ := H
 have A2 := aK cX
 clear cX
 replace H := Option.bind_eq_some_iff.mp H
 obtain ⟨b3,cA,H⟩ := H
 have A3 := aK cA
 clear cA
 replace H := Option.bind_eq_some_iff.mp H
 obtain ⟨b4,cY,H⟩ := H
 have A4 := aK cY
 clear cY
 replace H := Option.bind_eq_some_iff.mp H
 obtain ⟨b5,cZ,H⟩ := H
 have A5 := aK cZ
 clear cZ
 replace H := Option.bind_eq_some_iff.mp H
 obtain ⟨b6,c0,H⟩ := H
 have A6 := aK c0
 clear c0
 replace H := Option.bind_eq_some_iff.mp H
 obtain ⟨cr,c1,H⟩ := H
 have A7 := aK c1
 clear c1
 have H' := aK H
 clear H
 go_enter Tryz.func12,Tryz.ntmps12
 go_wp2_with (first|((with_reducible refine gate_dst (N := 1) rfl ?_);refine box_event ?hg (N := 1) ?hd (cs := #[.int .i64 ap,.int .i64 aq,.int .i64 ar,.slice au ak.length av,.slice aw al.length ax,.slice aC ah.length aD]) (t := 30) ?hr ?_;(case hd => rfl);(case hg => rfl);(case hr => first|(go_simp;done)|(go_simp;rfl));intro ay hg w8 hbox hb;have aa := aK (hbox);have ct := aK ((by rw [hg];exact (below_size (bM HB.out)) : w.heap.size ≤ ay));have da := Ge.mk ct.out;have cu := aK ((by rw [hg];exact (below_size (bM HB.out)) : w.heap.size ≤ ay));have db := Ge.mk cu.out;replace HB := aK (below_step (bM HB.out) hb);clear hb hbox hg;obtain ⟨b7,b8,b9,ca,cb,cc,cd,ce,cf,cg,ch,ci⟩ := bk6_ aa.out)|(go_at_call 41;refine calls_of_args (args' := #[.slice none ([] : List Int).length 0,.int .i64 ap]) (by first|with_reducible rfl|(simp only [List.length_nil];done)|(simp only [List.length_nil];with_reducible rfl)) ?_;(with_reducible refine (varint_Put.calls _ _ ([] : List Int) ap b2 _ ?ac ?ad A2.out).mono ?_);(case ac => exact Kd.C_nil _ _);(case ad => exact Nat.le_refl _);rintro e ds ⟨dj,rfl,ai,hb⟩;have ab := aK (Kd.R_lower ai (below_size (bG HB.out)));replace aa := aK (blk_below (kM aa.out) hb);replace HB := aK (below_step (bG HB.out) hb);(try clear hb);(try clear hk);(try clear ai);obtain ⟨aE,aF,aG,aH,aI,aJ,aL,aM,aN,aO,aP,aQ⟩ := bk6_ aa.out;obtain ⟨cB,cC,cD⟩ := Kd.R_slice ab.out;subst cD)|((with_reducible refine gate_callee (f := 41) rfl ?_);refine gL 12 Tryz.func41 #[.slice cB b2.length cC,.int .i64 aq] ?_;(with_reducible refine (varint_Put.calls _ _ b2 aq b3 _ ?ac ?ad A3.out).mono ?_);(case ac => exact cM (Kd.R_reads' ab.out).2.2);(case ad => exact (Kd.R_reads' ab.out).2.1);rintro e dt ⟨dk,rfl,ai,hb⟩;refine ⟨_,rfl,?_⟩;have ae := aK (Kd.R_lower (Kd.R_new' ai (Kd.R_lt (rM ab.out))) (below_size (bG HB.out)));replace ab := aK (Kd.R_elder' (rM ab.out) (Kd.R_base ai) hb);replace aa := aK (blk_below (kM aa.out) hb);replace HB := aK (below_step (bG HB.out) hb);(try clear hb);(try clear hk);(try clear ai);obtain ⟨aR,aS,aT,aU,aV,aW,aX,aY,aZ,a0,a1,a2⟩ := bk6_ aa.out;obtain ⟨cE,cF,cG⟩ := Kd.R_slice ae.out;subst cG)|((with_reducible refine gate_callee (f := 41) rfl ?_);refine gL 16 Tryz.func41 #[.slice cE b3.length cF,.int .i64 ar] ?_;(with_reducible refine (varint_Put.calls _ _ b3 ar b4 _ ?ac ?ad A4.out).mono ?_);(case ac => exact cM (Kd.R_reads' ae.out).2.2);(case ad => exact (Kd.R_reads' ae.out).2.1);rintro e du ⟨dl,rfl,ai,hb⟩;refine ⟨_,rfl,?_⟩;have af := aK (Kd.R_lower (Kd.R_new' (Kd.R_new' ai (Kd.R_lt (rM ab.out))) (Kd.R_lt (rM ae.out))) (below_size (bG HB.out)));replace ab := aK (Kd.R_elder' (rM ab.out) (Kd.R_base ai) hb);replace ae := aK (Kd.R_elder' (rM ae.out) (Kd.R_base ai) hb);replace aa := aK (blk_below (kM aa.out) hb);replace HB := aK (below_step (bG HB.out) hb);(try clear hb);(try clear hk);(try clear ai);obtain ⟨a3,a4,a5,a6,a7,a8,a9,ba,bb,bc,bd,be⟩ := bk6_ aa.out;obtain ⟨cH,cI,cJ⟩ := Kd.R_slice af.out;subst cJ)|((with_reducible refine gate_callee (f := 42) rfl ?_);refine gL 20 Tryz.func42 #[.slice cH b4.length cI,.slice au ak.length av] ?_;(with_reducible refine (manifest_list.calls k _ _ b4 _ _ ak b5 _ ?ac ?ad ?az ?aA A5.out).mono ?_);(case ac => exact cM (Kd.R_reads' af.out).2.2);(case ad => exact (Kd.R_reads' af.out).2.1);(case az => exact cM (Kd.C_below cm.out HB.out));(case aA => exact cn.out);rintro e dv ⟨dm,rfl,ai,hb⟩;refine ⟨_,rfl,?_⟩;have aj := aK (Kd.R_lower (Kd.R_new' (Kd.R_new' (Kd.R_new' ai (Kd.R_lt (rM ab.out))) (Kd.R_lt (rM ae.out))) (Kd.R_lt (rM af.out))) (below_size (bG HB.out)));replace ab := aK (Kd.R_elder' (rM ab.out) (Kd.R_base ai) hb);replace ae := aK (Kd.R_elder' (rM ae.out) (Kd.R_base ai) hb);replace af := aK (Kd.R_elder' (rM af.out) (Kd.R_base ai) hb);replace aa := aK (blk_below (kM aa.out) hb);replace HB := aK (below_step (bG HB.out) hb);(try clear hb);(try clear hk);(try clear ai);obtain ⟨bf,bg,bh,bi,bj,bk,bm,bn,bo,bp,bq,br⟩ := bk6_ aa.out;obtain ⟨cK,cL,cN⟩ := Kd.R_slice aj.out;subst cN)|((with_reducible refine gate_callee (f := 42) rfl ?_);refine gL 24 Tryz.func42 #[.slice cK b5.length cL,.slice aw al.length ax] ?_;(with_reducible refine (manifest_list.calls k _ _ b5 _ _ al b6 _ ?ac ?ad ?az ?aA A6.out).mono ?_);(case ac => exact cM (Kd.R_reads' aj.out).2.2);(case ad => exact (Kd.R_reads' aj.out).2.1);(case az => exact cM (Kd.C_below co.out HB.out));(case aA => exact cp.out);rintro e dw ⟨dn,rfl,ai,hb⟩;refine ⟨_,rfl,?_⟩;have an := aK (Kd.R_lower (Kd.R_new' (Kd.R_new' (Kd.R_new' (Kd.R_new' ai (Kd.R_lt (rM ab.out))) (Kd.R_lt (rM ae.out))) (Kd.R_lt (rM af.out))) (Kd.R_lt (rM aj.out))) (below_size (bG HB.out)));replace ab := aK (Kd.R_elder' (rM ab.out) (Kd.R_base ai) hb);replace ae := aK (Kd.R_elder' (rM ae.out) (Kd.R_base ai) hb);replace af := aK (Kd.R_elder' (rM af.out) (Kd.R_base ai) hb);replace aj := aK (Kd.R_elder' (rM aj.out) (Kd.R_base ai) hb);replace aa := aK (blk_below (kM aa.out) hb);replace HB := aK (below_step (bG HB.out) hb);(try clear hb);(try clear hk);(try clear ai);obtain ⟨bs,bu,bv,bx,bz,bB,bC,bD,bE,bF,bH,bI⟩ := bk6_ aa.out;obtain ⟨cO,cP,cQ⟩ := Kd.R_slice an.out;subst cQ)|((with_reducible refine gate_callee (f := 41) rfl ?_);refine gL 29 Tryz.func41 #[.slice cO b6.length cP,.int .i64 (ah.length : Int)] ?_;(with_reducible refine (varint_Put.calls _ _ b6 (ah.length : Int) cr _ ?ac ?ad A7.out).mono ?_);(case ac => exact cM (Kd.R_reads' an.out).2.2);(case ad => exact (Kd.R_reads' an.out).2.1);rintro e dx ⟨dp,rfl,ai,hb⟩;refine ⟨_,rfl,?_⟩;have cv := aK (Kd.R_lower (Kd.R_new' (Kd.R_new' (Kd.R_new' (Kd.R_new' (Kd.R_new' ai (Kd.R_lt (rM ab.out))) (Kd.R_lt (rM ae.out))) (Kd.R_lt (rM af.out))) (Kd.R_lt (rM aj.out))) (Kd.R_lt (rM an.out))) (below_size (bG HB.out)));replace aa := aK (blk_below (kM aa.out) hb);replace HB := aK (below_step (bG HB.out) hb);(try clear hb);(try clear hk);(try clear ai);obtain ⟨bJ,bK,bL,bN,bO,bP,bQ,bR,bS,bT,bU,bV⟩ := bk6_ aa.out))
 go_loopg [3,33] k (fun kq v3 dq w' => ∃ (aB : List Int) (ag : Int),dq = .int .i64 ag ∧ Aside0 (manifest_Encode.l0 kq aB ah (ah.length : Int) ag = some r) ∧ Aside0 (kq ≤ k) ∧ Aside0 (Kd.R (Kd.int .u8) 5 w' w.heap.size (fun _ => True) v3 aB) ∧ Aside0 (w'.heap[ay]? = some (.cells #[.int .i64 ap,.int .i64 aq,.int .i64 ar,(.slice au ak.length av),(.slice aw al.length ax),(.slice aC ah.length aD)] 30 (0,0))) ∧ Aside0 (Below w.heap.size w w'))
 case atStart => exact ⟨(cr),(0),(by first|rfl|(simp;done)|(simp [*];done)),H',⟨Nat.le_refl _⟩,⟨rM (Kd.R_mono cv.out (fun _ hk => trivial))⟩,⟨kM aa.out⟩,⟨bG HB.out⟩⟩
 case round =>
  clear H'
  try clear p2
  try clear aE
  try clear aF
  try clear aG
  try clear aH
  try clear aI
  try clear aJ
  try clear aR
  try clear aS
  try clear aT
  try clear aU
  try clear aV
  try clear aW
  try clear a3
  try clear a4
  try clear a5
  try clear a6
  try clear a7
  try clear a8
  try clear bf
  try clear bg
  try clear bh
  try clear bi
  try clear bj
  try clear bk
  try clear bs
  try clear bu
  try clear bv
  try clear bx
  try clear bz
  try clear bB
  try clear bJ
  try clear bK
  try clear bL
  try clear bN
  try clear bO
  try clear bP
  try clear b7
  try clear b8
  try clear b9
  try clear ca
  try clear cb
  try clear cc
  try clear aL
  try clear aM
  try clear aN
  try clear aO
  try clear aP
  try clear aQ
  try clear aX
  try clear aY
  try clear aZ
  try clear a0
  try clear a1
  try clear a2
  try clear a9
  try clear ba
  try clear bb
  try clear bc
  try clear bd
  try clear be
  try clear bm
  try clear bn
  try clear bo
  try clear bp
  try clear bq
  try clear br
  try clear bC
  try clear bD
  try clear bE
  try clear bF
  try clear bH
  try clear bI
  try clear bQ
  try clear bR
  try clear bS
  try clear bT
  try clear bU
  try clear bV
  try clear cd
  try clear ce
  try clear cf
  try clear cg
  try clear ch
  try clear ci
  obtain ⟨aB,ag,rfl,HA,dc,am,aa,HB⟩ := hrel
  cases gk with
 |zero => exact absurd HA.out (by simp [manifest_Encode.l0])
 |succ k1 =>
   have H := HA.out
   clear HA
   simp only [manifest_Encode.l0] at H
   by_cases cl : ag < (ah.length : Int)
   ·rw [if_pos cl] at H
    have cw := decide_eq_true cl
    clear cl
    obtain ⟨dd,H⟩ := iS H
    have de := decide_eq_true dd
    clear dd
    obtain ⟨df,H⟩ := iS H
    have dg := decide_eq_true df
    clear df
    replace H := Option.bind_eq_some_iff.mp H
    obtain ⟨cx,cy,H⟩ := H
    have cA := aK cy
    clear cy
    have H' := aK H
    clear H
    have cj : 0 ≤ (ag : Int) := dA
    have ck : ag < (ah.length : Int) := dA
    obtain ⟨dh,cR,ao⟩ := Kd.at_string cq.out ag cj ck
    cases cR
    replace ao := xM HB ao
    replace cj := eq_true cj
    replace ck := eq_true ck
    obtain ⟨cS,cT,cU⟩ := Kd.R_slice am.out
    subst cU
    go_wp2_with (first|((with_reducible refine gate_callee (f := 43) rfl ?_);refine gL 39 Tryz.func43 #[.slice cS aB.length cT,.string (rdOf ByteArray.empty ah ag)] ?_;(with_reducible refine (varint_PutString.calls _ _ aB (rdOf ByteArray.empty ah ag) cx _ ?ac ?ad cA.out).mono ?_);(case ac => exact cM (Kd.R_reads' am.out).2.2);(case ad => exact (Kd.R_reads' am.out).2.1);rintro e dy ⟨dr,rfl,ai,hb⟩;refine ⟨_,rfl,?_⟩;have cz := aK (Kd.R_lower (Kd.R_new' ai (Kd.R_lt (rM am.out))) (below_size (bG HB.out)));replace am := aK (Kd.R_elder' (rM am.out) (Kd.R_base ai) hb);replace aa := aK (blk_below (kM aa.out) hb);replace HB := aK (below_step (bG HB.out) hb);(try clear hb);(try clear hk);(try clear ai)))
    go_roundg k1
    case measure => have := dc.out;omega
    case rel => exact ⟨(cx),(wrap64 (ag + 1)),(by first|rfl|(simp;done)|(simp [*];done)),H',⟨by have := dc.out;omega⟩,⟨rM (Kd.R_mono cz.out (fun _ hk => trivial))⟩,⟨kM aa.out⟩,⟨bG HB.out⟩⟩
   ·rw [if_neg cl] at H
    have cw := decide_eq_false cl
    clear cl
    obtain rfl := Option.some.inj H
    go_wp2
    go_ret
    exact ⟨_,by first|rfl|(simp [errW_none,errW_some] <;> rfl)|(simp [*,errW_none,errW_some] <;> rfl),rM am.out,bG HB.out⟩
end Go.Proofs.YtmgliocboeifdaaGreatDoor.F
