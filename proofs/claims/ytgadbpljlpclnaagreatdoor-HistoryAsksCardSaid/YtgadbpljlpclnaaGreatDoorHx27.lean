import Derived.Test.YtgadbpljlpclnaaGreatDoorHx0
import Derived.Test.YtgadbpljlpclnaaGreatDoorHx3
namespace Go.Proofs.YtgadbpljlpclnaaGreatDoor.H
open Go.RowKit Go.Proofs.YtgadbpljlpclnaaGreatDoorW.PrintWords Go.Proofs.YtgadbpljlpclnaaGreatDoorW.PrintLast Go.Proofs.YtgadbpljlpclnaaGreatDoorW.PrintMore
set_option maxHeartbeats 4000000
set_option maxRecDepth 100000
attribute [local go_sem] max2_int min2_int max_two min_two max_three min_three max_four min_four
set_option linter.unusedVariables false
set_option linter.unusedSimpArgs false

/-! ### r25_paths: function 53 -/
mutual
def r25_paths.l0 : Nat → List (S55) → List (List (S55)) → Int → Option (List ByteArray)
|0,_,_,_ => none
|k + 1,x7,x8,x9 => if x9 < (x8.length : Int) then (r25_paths.l1 k x7 x8 x9 0) else (r25_paths.l2 k x7 ([] : List ByteArray) 0)
def r25_paths.l1 : Nat → List (S55) → List (List (S55)) → Int → Int → Option (List ByteArray)
|0,_,_,_,_ => none
|k + 1,x7,x8,x9,aa => if 0 ≤ x9 then (if x9 < (x8.length : Int) then (if aa < ((rd_L7 x8 x9).length : Int) then (if 0 ≤ aa then ((r25_Set.f k x7 ((rd_T55 (rd_L7 x8 x9) aa).f0) 1).bind fun ab => (r25_paths.l1 k ab x8 x9 (wrap64 (aa + 1)))) else (none)) else (r25_paths.l0 k x7 x8 (wrap64 (x9 + 1)))) else (none)) else (none)
def r25_paths.l2 : Nat → List (S55) → List ByteArray → Int → Option (List ByteArray)
|0,_,_,_ => none
|k + 1,x7,ab,aa => if aa < (x7.length : Int) then (if 0 ≤ aa then (if ab.length < 8796093022208 then (r25_paths.l2 k x7 (ab ++ [(rd_T55 x7 aa).f0]) (wrap64 (aa + 1))) else (none)) else (none)) else (some ab)
end
def r25_paths.f (k : Nat) (l0 : List (S55)) (l1 : List (S55)) (l2 : List (S55)) : Option (List ByteArray) := r25_paths.l0 k ([] : List (S55)) (([l0, l1, l2] : List (List (S55)))) 0
theorem r25_paths.mono_l : ∀ k, (∀ y0 y1 y2, LeO (r25_paths.l0 k y0 y1 y2) (r25_paths.l0 (k + 1) y0 y1 y2)) ∧ (∀ y0 y1 y2 y3, LeO (r25_paths.l1 k y0 y1 y2 y3) (r25_paths.l1 (k + 1) y0 y1 y2 y3)) ∧ (∀ y0 y1 y2, LeO (r25_paths.l2 k y0 y1 y2) (r25_paths.l2 (k + 1) y0 y1 y2))
|0 => ⟨fun _ _ _ r h => by simp [r25_paths.l0] at h,fun _ _ _ _ r h => by simp [r25_paths.l1] at h,fun _ _ _ r h => by simp [r25_paths.l2] at h⟩
|k + 1 => by
  obtain ⟨ih0,ih1,ih2⟩ := r25_paths.mono_l k
  refine ⟨?_,?_,?_⟩
  ·intro y0 y1 y2
   unfold r25_paths.l0
   repeat' (with_reducible first|exact ih1 _ _ _ _|exact ih2 _ _ _|exact LeO.refl _|exact LeO.none _|refine LeO.ite ?_ ?_|refine LeO.bind ?_ (fun _ => ?_))
  ·intro y0 y1 y2 y3
   unfold r25_paths.l1
   repeat' (with_reducible first|exact ih0 _ _ _|exact ih1 _ _ _ _|exact r25_Set.mono _ _ _ _|exact LeO.refl _|exact LeO.none _|refine LeO.ite ?_ ?_|refine LeO.bind ?_ (fun _ => ?_))
  ·intro y0 y1 y2
   unfold r25_paths.l2
   repeat' (with_reducible first|exact ih2 _ _ _|exact LeO.refl _|exact LeO.none _|refine LeO.ite ?_ ?_|refine LeO.bind ?_ (fun _ => ?_))
theorem r25_paths.mono : ∀ a0 a1 a2 k, LeO (r25_paths.f k a0 a1 a2) (r25_paths.f (k + 1) a0 a1 a2) := by
 intro a0 a1 a2 k
 obtain ⟨ih0,ih1,ih2⟩ := r25_paths.mono_l k
 unfold r25_paths.f
 repeat' (with_reducible first|exact ih0 _ _ _|exact ih1 _ _ _ _|exact ih2 _ _ _|exact r25_Set.mono _ _ _ _|exact LeO.refl _|exact LeO.none _|refine LeO.ite ?_ ?_|refine LeO.bind ?_ (fun _ => ?_))
theorem r25_paths.calls (k : Nat) (aC : Nat → Prop) (A0 : Option Addr) (c0 : Nat) (l0 : List (S55)) (aD : Nat → Prop) (A1 : Option Addr) (c1 : Nat) (l1 : List (S55)) (aE : Nat → Prop) (A2 : Option Addr) (c2 : Nat) (l2 : List (S55)) (r : List ByteArray) (w : World) (b8 : Kd.V k55 55 w w.heap.size (fun k_ => aC k_) (.slice A0 l0.length c0) l0) (b9 : Kd.V k55 55 w w.heap.size (fun k_ => aD k_) (.slice A1 l1.length c1) l1) (ca : Kd.V k55 55 w w.heap.size (fun k_ => aE k_) (.slice A2 l2.length c2) l2) (h : r25_paths.f k l0 l1 l2 = some r) :
  Calls Tryz.prog 53 #[.slice A0 l0.length c0,.slice A1 l1.length c1,.slice A2 l2.length c2] w fun e w' => ∃ bV : Value,e = .returned (bV) ∧ Kd.R Kd.string 9 w' w.heap.size (fun k_ => (w.heap.size ≤ k_)) bV r ∧ Below w.heap.size w w' := by
 have bW := aK (show Kd.V k55 55 w w.heap.size (fun k_ => ((aC k_ ∨ aD k_ ∨ aE k_) ∨ w.heap.size ≤ k_)) (.slice A0 l0.length c0) l0 from Kd.V_mono b8 (fun k_ hk => .inl (.inl hk)))
 have bX := aK (show Kd.V k55 55 w w.heap.size (fun k_ => ((aC k_ ∨ aD k_ ∨ aE k_) ∨ w.heap.size ≤ k_)) (.slice A1 l1.length c1) l1 from Kd.V_mono b9 (fun k_ hk => .inl (.inr (.inl hk))))
 have bY := aK (show Kd.V k55 55 w w.heap.size (fun k_ => ((aC k_ ∨ aD k_ ∨ aE k_) ∨ w.heap.size ≤ k_)) (.slice A2 l2.length c2) l2 from Kd.V_mono ca (fun k_ hk => .inl (.inr (.inr hk))))
 have HB := aK (Below.refl w.heap.size w)
 have H : (r25_paths.l0 k ([] : List (S55)) (([l0,l1,l2] : List (List (S55)))) 0) = some r := h
 clear h
 obtain ⟨af,ay⟩ : ∃ y_ : List (List (S55)),y_ = (([l0,l1,l2] : List (List (S55)))) := ⟨_,rfl⟩
 replace H : (r25_paths.l0 k ([] : List (S55)) af 0) = some r := by first|(rw [ay];with_reducible exact H)|(have a4 := (Option.bind_some _ _).symm.trans H;rw [ay];with_reducible exact a4)|(have a4 := (Option.bind_some _ _).symm.trans H;with_reducible exact a4)|with_reducible exact H|(rw [ay];exact H)|exact H
 have a2 := aK ay
 clear ay
 have H' := aK H
 clear H
 go_enter Tryz.func53,Tryz.ntmps53
 go_wp2_with (first|((with_reducible refine gate_dst (N := 16) rfl ?_);refine Kd.N_lit (Kd.slice 55 k55) _ 35 ?hg (N' := 16) ?hd (xs := ([l0,l1,l2] : List (List (S55)))) (inner := [.slice A0 l0.length c0,.slice A1 l1.length c1,.slice A2 l2.length c2]) (ok := (fun k_ => ((aC k_ ∨ aD k_ ∨ aE k_) ∨ w.heap.size ≤ k_))) (okp := (fun k_ => ((aC k_ ∨ aD k_ ∨ aE k_) ∨ w.heap.size ≤ k_))) ?hr ?hp (fun _ hk => hk) ((show ∀ k_,w.heap.size ≤ k_ → (fun k_ => ((aC k_ ∨ aD k_ ∨ aE k_) ∨ w.heap.size ≤ k_)) k_ from fun k_ hk => (.inr (Nat.le_trans (below_size (bM HB.out)) hk))) _ (Nat.le_refl _)) (Below.refl _ _) (Nat.le_refl _) (by simp) ?_;(case hd => rfl);(case hg => rfl);(case hr => first|(go_simp;done)|(go_simp;rfl));(case hp => exact (Reps.one (show Kd.FK (Kd.slice 55 k55) _ _ l0 [.slice A0 l0.length c0] from (Kd.FK_slice_mk (Kd.V_reads' (Kd.V_mono (ok' := (fun k_ => ((aC k_ ∨ aD k_ ∨ aE k_) ∨ w.heap.size ≤ k_))) (bW.out) (fun k_ hk => hk))).2.1 (Kd.V_F (Kd.V_mono (ok' := (fun k_ => ((aC k_ ∨ aD k_ ∨ aE k_) ∨ w.heap.size ≤ k_))) (bW.out) (fun k_ hk => hk))))) (Reps.one (show Kd.FK (Kd.slice 55 k55) _ _ l1 [.slice A1 l1.length c1] from (Kd.FK_slice_mk (Kd.V_reads' (Kd.V_mono (ok' := (fun k_ => ((aC k_ ∨ aD k_ ∨ aE k_) ∨ w.heap.size ≤ k_))) (bX.out) (fun k_ hk => hk))).2.1 (Kd.V_F (Kd.V_mono (ok' := (fun k_ => ((aC k_ ∨ aD k_ ∨ aE k_) ∨ w.heap.size ≤ k_))) (bX.out) (fun k_ hk => hk))))) (Reps.one (show Kd.FK (Kd.slice 55 k55) _ _ l2 [.slice A2 l2.length c2] from (Kd.FK_slice_mk (Kd.V_reads' (Kd.V_mono (ok' := (fun k_ => ((aC k_ ∨ aD k_ ∨ aE k_) ∨ w.heap.size ≤ k_))) (bY.out) (fun k_ hk => hk))).2.1 (Kd.V_F (Kd.V_mono (ok' := (fun k_ => ((aC k_ ∨ aD k_ ∨ aE k_) ∨ w.heap.size ≤ k_))) (bY.out) (fun k_ hk => hk))))) (Reps.none _ _)))));intro bI w4 bg hb hg_ hnew_;clear hg_ hnew_;(first|rw [← a2.out] at bg|(simp only [Int.reduceToNat] at bg;rw [← a2.out] at bg));have bh := aK (Kd.N_lower bg (below_size (bM HB.out)));replace HB := aK (below_step (bM HB.out) hb);clear hb bg))
 go_loopg [7,9] k (fun kq v7 v9 w' => ∃ (am : List (S55)) (aa : Int),v9 = .int .i64 aa ∧ Aside0 (r25_paths.l0 kq am af aa = some r) ∧ Aside0 (kq ≤ k) ∧ Aside0 (Kd.R k55 55 w' w.heap.size (fun k_ => (w.heap.size ≤ k_)) v7 am) ∧ Aside0 (Kd.N (Kd.slice 55 k55) 35 w' w.heap.size (fun k_ => ((aC k_ ∨ aD k_ ∨ aE k_) ∨ w.heap.size ≤ k_) ∧ some k_ ≠ (v7 : Value).ownBlock) bI af) ∧ Aside0 (Below w.heap.size w w'))
 case atStart => exact ⟨(([] : List (S55))),(0),(by first|rfl|(simp;done)|(simp [*];done)),H',⟨Nat.le_refl _⟩,⟨by first|exact Kd.R_nil _ _ _ _ _|exact Kd.N_nil _ _ _ _ _|exact Kd.V_nil _ _ _ _ _|exact Kd.Q_nil _ _ _ _ _|exact Kd.S_nil _ _ _ _ _⟩,⟨by (with_reducible repeat (first|apply Kd.N_alloc|apply Kd.N_drewN|apply Kd.N_drew));exact Kd.N_mono bh.out (fun _ hk => ⟨hk,(by simp [Value.ownBlock])⟩)⟩,⟨bM HB.out⟩⟩
 case round =>
  clear H'
  try clear p2
  obtain ⟨am,aa,rfl,HA,be,ag,ah,HB⟩ := hrel
  cases gk with
 |zero => exact absurd HA.out (by simp [r25_paths.l0])
 |succ k1 =>
   have H := HA.out
   clear HA
   simp only [r25_paths.l0] at H
   by_cases c6 : aa < (af.length : Int)
   ·rw [if_pos c6] at H
    have a5 := decide_eq_true c6
    clear c6
    have H' := aK H
    clear H
    obtain ⟨cb,cc,cd⟩ := Kd.N_slice ah.out
    subst cd
    go_wp2
    go_loopg [7,10] k1 (fun kq v7 ce w' => ∃ (aM : List (S55)) (ai : Int),ce = .int .i64 ai ∧ Aside0 (r25_paths.l1 kq aM af aa ai = some r) ∧ Aside0 (kq ≤ k1) ∧ Aside0 (Kd.R k55 55 w' w.heap.size (fun k_ => (w.heap.size ≤ k_)) v7 aM) ∧ Aside0 (Kd.N (Kd.slice 55 k55) 35 w' w.heap.size (fun k_ => ((aC k_ ∨ aD k_ ∨ aE k_) ∨ w.heap.size ≤ k_) ∧ some k_ ≠ (v7 : Value).ownBlock) (.slice cb af.length cc) af) ∧ Aside0 (Below w.heap.size w w'))
    case atStart => exact ⟨(am),(0),(by first|rfl|(simp;done)|(simp [*];done)),H',⟨Nat.le_refl _⟩,⟨rM ag.out⟩,⟨nM ah.out⟩,⟨bM HB.out⟩⟩
    case round =>
     clear H'
     try clear p2
     try clear c6
     try clear a5
     try clear p2
     obtain ⟨aM,ai,rfl,HA,a6,ag,ah,HB⟩ := hrel
     cases gk with
    |zero => exact absurd HA.out (by simp [r25_paths.l1])
    |succ k2 =>
      have H := HA.out
      clear HA
      simp only [r25_paths.l1] at H
      obtain ⟨c8,H⟩ := iS H
      have cf := decide_eq_true c8
      clear c8
      obtain ⟨c9,H⟩ := iS H
      have cg := decide_eq_true c9
      clear c9
      by_cases c10 : ai < ((rd_L7 af aa).length : Int)
      ·rw [if_pos c10] at H
       have bi := decide_eq_true c10
       clear c10
       obtain ⟨bZ,H⟩ := iS H
       have b1 := decide_eq_true bZ
       clear bZ
       replace H := Option.bind_eq_some_iff.mp H
       obtain ⟨bj,bk,H⟩ := H
       have ch := aK bk
       clear bk
       have H' := aK H
       clear H
       have ap : 0 ≤ (aa : Int) := dA
       have aq : aa < (af.length : Int) := dA
       obtain ⟨a3,a7,a8,a9,aj,ak,al⟩ := at_L7 (Kd.N_reads' ah.out).2.2 aa ap aq
       cases a9
       obtain ⟨bm,aG,aH,ao⟩ := Kd.N_get ah.out [] aa ap (by first|exact aq|exact dA|(have e_ := (Kd.N_reads' ah.out).1;omega))
       obtain ⟨aU,aV,rfl,ac,ad⟩ := Kd.FK_slice_open aH
       have ab := ao 0 _ rfl
       rw [Nat.add_zero,show ((Kd.slice 55 k55)).sz = 1 from rfl,Nat.mul_one] at ab
       replace ab := Option.some.inj (ab.symm.trans aj)
       injection ab with hva_ hvn_ hvc_
       rw [hva_] at ad
       rw [hvc_] at ac
       have ar := aK (show Kd.V k55 55 _ w.heap.size _ _ (rd_L7 af aa) from Kd.V_mk ac ad)
       clear hva_ hvn_ hvc_ ad ac
       clear ao aG
       have au := aK al
       have aW := aK ak
       clear al ak
       replace ap := eq_true ap
       replace aq := eq_true aq
       have aN : 0 ≤ (aa : Int) := dA
       have aQ : aa < (af.length : Int) := dA
       obtain ⟨bn,bJ,bK,bL,av,aI,aJ⟩ := at_L7 (Kd.N_reads' ah.out).2.2 aa aN aQ
       obtain rfl : a3 = bn := (by injection bL)
       obtain ⟨b2,ba,bb,aR⟩ := Kd.N_get ah.out [] aa aN (by first|exact aQ|exact dA|(have e_ := (Kd.N_reads' ah.out).1;omega))
       obtain ⟨bB,bC,rfl,aw,ax⟩ := Kd.FK_slice_open bb
       have an := aR 0 _ rfl
       rw [Nat.add_zero,show ((Kd.slice 55 k55)).sz = 1 from rfl,Nat.mul_one] at an
       replace an := Option.some.inj (an.symm.trans av)
       injection an with hva_ hvn_ hvc_
       rw [hva_] at ax
       rw [hvc_] at aw
       have bD := aK (show Kd.V k55 55 _ w.heap.size _ _ (rd_L7 af aa) from Kd.V_mk aw ax)
       clear hva_ hvn_ hvc_ ax aw
       clear aR ba
       have aX := aK aJ
       have bE := aK aI
       clear aJ aI
       replace aN := eq_true aN
       replace aQ := eq_true aQ
       have ea_ := Option.some.inj (aj.symm.trans av)
       injection ea_ with ea_ en_ ec_
       subst ea_
       subst ec_
       clear en_
       have aY : 0 ≤ (ai : Int) := dA
       have aZ : ai < ((rd_L7 af aa).length : Int) := dA
       obtain ⟨b3,bN,a0,a1⟩ := at_T55 aX.out ai aY aZ
       cases bN
       replace aY := eq_true aY
       replace aZ := eq_true aZ
       obtain ⟨bO,bP,bQ⟩ := Kd.R_slice ag.out
       subst bQ
       go_wp2_with (first|((with_reducible refine gate_callee (f := 64) rfl ?_);refine gL 41 Tryz.func64 #[.slice bO aM.length bP,.string ((rd_T55 (rd_L7 af aa) ai).f0),.int .i64 1] ?_;(with_reducible refine (r25_Set.calls k2 _ _ aM ((rd_T55 (rd_L7 af aa) ai).f0) 1 bj _ ?bo ?bp ch.out).mono ?_);(case bo => exact cM (Kd.R_reads' ag.out).2.2);(case bp => exact (Kd.R_reads' ag.out).2.1);rintro e cs ⟨ci,rfl,bq,hb⟩;refine ⟨_,rfl,?_⟩;replace ah := aK (Kd.N_elder' (nM ah.out) (Kd.R_base bq) hb);replace ar := aK (Kd.V_elder' (vM ar.out) (Kd.R_base bq) hb);have br := aK (Kd.R_lower (Kd.R_new' (Kd.R_newM (M := fun k_ => (w.heap.size ≤ k_)) bq (below_size (bM HB.out)) (fun k_ h_ => h_)) (Kd.R_lt (rM ag.out))) (below_size (bM HB.out)));replace ag := aK (Kd.R_elder' (rM ag.out) (Kd.R_base bq) hb);replace au := aK (Kd.C_below (cM au.out) hb);replace HB := aK (below_step (bM HB.out) hb);(try clear hb);(try clear hk);(try clear bq)))
       go_roundg k2
       case measure => have := be.out;have := a6.out;omega
       case rel => exact ⟨(bj),(wrap64 (ai + 1)),(by first|rfl|(simp;done)|(simp [*];done)),H',⟨by have := be.out;have := a6.out;omega⟩,⟨by refine rO ?_;exact Kd.R_mono br.out (fun _ hk => hk.1.1)⟩,⟨by (with_reducible repeat (first|apply Kd.N_alloc|apply Kd.N_drewN|apply Kd.N_drew));exact Kd.N_mono ah.out (fun _ hk => ⟨hk.1.1,hk.2⟩)⟩,⟨bM HB.out⟩⟩
      ·rw [if_neg c10] at H
       have bi := decide_eq_false c10
       clear c10
       have H' := aK H
       clear H
       have ap : 0 ≤ (aa : Int) := dA
       have aq : aa < (af.length : Int) := dA
       obtain ⟨a3,a7,a8,a9,aj,ak,al⟩ := at_L7 (Kd.N_reads' ah.out).2.2 aa ap aq
       cases a9
       obtain ⟨bm,aG,aH,ao⟩ := Kd.N_get ah.out [] aa ap (by first|exact aq|exact dA|(have e_ := (Kd.N_reads' ah.out).1;omega))
       obtain ⟨aU,aV,rfl,ac,ad⟩ := Kd.FK_slice_open aH
       have ab := ao 0 _ rfl
       rw [Nat.add_zero,show ((Kd.slice 55 k55)).sz = 1 from rfl,Nat.mul_one] at ab
       replace ab := Option.some.inj (ab.symm.trans aj)
       injection ab with hva_ hvn_ hvc_
       rw [hva_] at ad
       rw [hvc_] at ac
       have ar := aK (show Kd.V k55 55 _ w.heap.size _ _ (rd_L7 af aa) from Kd.V_mk ac ad)
       clear hva_ hvn_ hvc_ ad ac
       clear ao aG
       have au := aK al
       have aW := aK ak
       clear al ak
       replace ap := eq_true ap
       replace aq := eq_true aq
       go_wp2
       go_roundg k2
       case measure => have := be.out;have := a6.out;omega
       case rel => exact ⟨(aM),(wrap64 (aa + 1)),(by first|rfl|(simp;done)|(simp [*];done)),H',⟨by have := be.out;have := a6.out;omega⟩,⟨rM ag.out⟩,⟨nM ah.out⟩,⟨bM HB.out⟩⟩
   ·rw [if_neg c6] at H
    have a5 := decide_eq_false c6
    clear c6
    have H' := aK H
    clear H
    obtain ⟨cj,ck,bR⟩ := Kd.N_slice ah.out
    subst bR
    go_wp2
    go_loopg [11,12] k1 (fun kq cl cm w' => ∃ (az : List ByteArray) (ae : Int),cm = .int .i64 ae ∧ Aside0 (r25_paths.l2 kq am az ae = some r) ∧ Aside0 (kq ≤ k1) ∧ Aside0 (Kd.R k55 55 w' w.heap.size (fun k_ => (w.heap.size ≤ k_)) u7 am) ∧ Aside0 (Kd.R Kd.string 9 w' w.heap.size (fun k_ => (w.heap.size ≤ k_)) cl az) ∧ Aside0 (Below w.heap.size w w'))
    case atStart => exact ⟨(([] : List ByteArray)),(0),(by first|rfl|(simp;done)|(simp [*];done)),H',⟨Nat.le_refl _⟩,⟨rM ag.out⟩,⟨by first|exact Kd.R_nil _ _ _ _ _|exact Kd.N_nil _ _ _ _ _|exact Kd.V_nil _ _ _ _ _|exact Kd.Q_nil _ _ _ _ _|exact Kd.S_nil _ _ _ _ _⟩,⟨bM HB.out⟩⟩
    case round =>
     clear H'
     try clear p2
     try clear a5
     try clear p6
     try clear q6
     try clear hx6
     try clear aj
     try clear av
     try clear a0
     try clear a1
     try clear p2
     try clear ap
     try clear aN
     try clear aY
     try clear aq
     try clear aQ
     try clear aZ
     obtain ⟨az,ae,rfl,HA,a6,ag,aT,HB⟩ := hrel
     cases gk with
    |zero => exact absurd HA.out (by simp [r25_paths.l2])
    |succ k2 =>
      have H := HA.out
      clear HA
      simp only [r25_paths.l2] at H
      by_cases bf : ae < (am.length : Int)
      ·rw [if_pos bf] at H
       have bs := decide_eq_true bf
       clear bf
       obtain ⟨b4,H⟩ := iS H
       have b5 := decide_eq_true b4
       clear b4
       obtain ⟨b6,H⟩ := iS H
       have bu := aK b6
       clear b6
       obtain ⟨bv,aA⟩ : ∃ y_ : List ByteArray,y_ = (az ++ [(rd_T55 am ae).f0]) := ⟨_,rfl⟩
       replace H : (r25_paths.l2 k2 am bv (wrap64 (ae + 1))) = some r := by first|(rw [aA];with_reducible exact H)|(have a4 := (Option.bind_some _ _).symm.trans H;rw [aA];with_reducible exact a4)|(have a4 := (Option.bind_some _ _).symm.trans H;with_reducible exact a4)|with_reducible exact H|(rw [aA];exact H)|exact H
       have bx := aK aA
       clear aA
       have H' := aK H
       clear H
       obtain ⟨cn,co,bS⟩ := Kd.R_slice ag.out
       subst bS
       have bc : 0 ≤ (ae : Int) := dA
       have bd : ae < (am.length : Int) := dA
       obtain ⟨b7,bT,bF,bH⟩ := at_T55 (Kd.R_reads' ag.out).2.2 ae bc bd
       cases bT
       replace bc := eq_true bc
       replace bd := eq_true bd
       go_wp2_with (first|((with_reducible refine gate_builtin (b := .append) (xs := #[.tmp 48,.tmp 54]) rfl ?_);at_builtin;refine Kd.R_append Kd.string (w0 := w) w.heap.size rfl (.tmp 48) (.tmp 54) 44 9 (.string ⟨#[]⟩) 16 rfl Tryz.underlying44 info9 rfl (by decide) (by omega) u11 az ((rd_T55 am ae).f0) [.string ((rd_T55 am ae).f0)] (fun k_ => (w.heap.size ≤ k_)) (fun _ => False) rfl rfl ?aP (fun _ hk => hk.elim) ?aF ?aO ?aB ?aS ?aL ?_;(case aP => exact rfl);(case aB => exact (bM HB.out));(case aF => exact (fun k_ hk => (Nat.le_trans (below_size (bM HB.out)) hk)));(case aO => exact (rM aT.out));(case aS => exact (below_size (bM HB.out)));(case aL => have := bu.out;omega);intro cp ct ho hb hg hat;rw [← bx.out] at ho;replace ag := aK (Kd.R_over' (rM ag.out) (Kd.R_typed (rM aT.out)) (by decide) hg);replace HB := aK (hb);have bz := aK (ho);clear ho hb hg hat))
       go_roundg k2
       case measure => have := be.out;have := a6.out;omega
       case rel => exact ⟨(bv),(wrap64 (ae + 1)),(by first|rfl|(simp;done)|(simp [*];done)),H',⟨by have := be.out;have := a6.out;omega⟩,⟨rM ag.out⟩,⟨rM bz.out⟩,⟨bM HB.out⟩⟩
      ·rw [if_neg bf] at H
       have bs := decide_eq_false bf
       clear bf
       obtain rfl := Option.some.inj H
       obtain ⟨cq,cr,bU⟩ := Kd.R_slice ag.out
       subst bU
       go_wp2
       go_ret
       exact ⟨_,by first|rfl|(simp [errW_none,errW_some] <;> rfl)|(simp [*,errW_none,errW_some] <;> rfl),rM aT.out,bM HB.out⟩

/-! ### r25_blob: function 54 -/
def r25_blob.l0 : Nat → List (S55) → ByteArray → Int → Option (Int)
|0,_,_,_ => none
|k + 1,x0,x1,x5 => if x5 < (x0.length : Int) then (if 0 ≤ x5 then (if ((rd_T55 x0 x5).f0).toList = x1.toList then (some ((rd_T55 x0 x5).f1)) else (r25_blob.l0 k x0 x1 (wrap64 (x5 + 1)))) else (none)) else (some 0)
def r25_blob.f (k : Nat) (l0 : List (S55)) (a1 : ByteArray) : Option (Int) := r25_blob.l0 k l0 a1 0
theorem r25_blob.mono_l : ∀ k, (∀ y0 y1 y2, LeO (r25_blob.l0 k y0 y1 y2) (r25_blob.l0 (k + 1) y0 y1 y2))
|0 => fun _ _ _ r h => by simp [r25_blob.l0] at h
|k + 1 => by
  have ih0 := r25_blob.mono_l k
  ·intro y0 y1 y2
   unfold r25_blob.l0
   repeat' (with_reducible first|exact ih0 _ _ _|exact LeO.refl _|exact LeO.none _|refine LeO.ite ?_ ?_|refine LeO.bind ?_ (fun _ => ?_))
theorem r25_blob.mono : ∀ a0 a1 k, LeO (r25_blob.f k a0 a1) (r25_blob.f (k + 1) a0 a1) := by
 intro a0 a1 k
 have ih0 := r25_blob.mono_l k
 unfold r25_blob.f
 repeat' (with_reducible first|exact ih0 _ _ _|exact LeO.refl _|exact LeO.none _|refine LeO.ite ?_ ?_|refine LeO.bind ?_ (fun _ => ?_))
theorem r25_blob.calls (k : Nat) (A0 : Option Addr) (c0 : Nat) (l0 : List (S55)) (a1 : ByteArray) (r : Int) (w : World) (ar : Kd.C k55 w A0 l0.length l0) (au : l0.length ≤ c0) (h : r25_blob.f k l0 a1 = some r) :
  Calls Tryz.prog 54 #[.slice A0 l0.length c0,.string a1] w fun e w' => e = .returned (.int .i64 r) ∧ Drawn0 w w' := by
 have am := aK ar
 have ax := aK au
 clear ar au
 have H : (r25_blob.l0 k l0 a1 0) = some r := h
 clear h
 have H' := aK H
 clear H
 go_enter Tryz.func54,Tryz.ntmps54
 go_wp2
 go_loopg [5] k (fun kq v5 w' => ∃ (aa : Int),v5 = .int .i64 aa ∧ Aside0 (r25_blob.l0 kq l0 a1 aa = some r) ∧ Aside0 (kq ≤ k) ∧ Drawn0 w w')
 case atStart => exact ⟨(0),(by first|rfl|(simp;done)|(simp [*];done)),H',⟨Nat.le_refl _⟩,by repeat (first|exact Drawn0.refl _|apply Drawn0.step)⟩
 case round =>
  clear H'
  try clear p2
  obtain ⟨aa,rfl,HA,av,⟨m1,rfl⟩⟩ := hrel
  cases gk with
 |zero => exact absurd HA.out (by simp [r25_blob.l0])
 |succ k1 =>
   have H := HA.out
   clear HA
   simp only [r25_blob.l0] at H
   by_cases c3 : aa < (l0.length : Int)
   ·rw [if_pos c3] at H
    have an := decide_eq_true c3
    clear c3
    obtain ⟨c4,H⟩ := iS H
    have aw := decide_eq_true c4
    clear c4
    by_cases c5 : ((rd_T55 l0 aa).f0).toList = a1.toList
    ·rw [if_pos c5] at H
     have ao := beq_iff_eq.mpr c5
     have ap := bne_eq_false_iff_eq.mpr c5
     clear c5
     obtain rfl := Option.some.inj H
     have ab : 0 ≤ (aa : Int) := dA
     have ac : aa < (l0.length : Int) := dA
     obtain ⟨af,ag,ad,ae⟩ := at_T55 am.out aa ab ac
     cases ag
     replace ab := eq_true ab
     replace ac := eq_true ac
     have ah : 0 ≤ (aa : Int) := dA
     have ai : aa < (l0.length : Int) := dA
     obtain ⟨aj,aq,ak,al⟩ := at_T55 am.out aa ah ai
     obtain rfl : af = aj := (by injection aq)
     replace ah := eq_true ah
     replace ai := eq_true ai
     go_wp2
     go_ret
     exact ⟨by first|rfl|(simp;done)|(simp [*];done),by repeat (first|exact Drawn0.refl _|apply Drawn0.step)⟩
    ·rw [if_neg c5] at H
     have ao := beq_eq_false_iff_ne.mpr c5
     have ap := bne_iff_ne.mpr c5
     have H' := aK H
     clear H
     have ab : 0 ≤ (aa : Int) := dA
     have ac : aa < (l0.length : Int) := dA
     obtain ⟨af,ag,ad,ae⟩ := at_T55 am.out aa ab ac
     cases ag
     replace ab := eq_true ab
     replace ac := eq_true ac
     go_wp2
     go_roundg k1
     case measure => have := av.out;omega
     case rel => exact ⟨(wrap64 (aa + 1)),(by first|rfl|(simp;done)|(simp [*];done)),H',⟨by have := av.out;omega⟩,by repeat (first|exact Drawn0.refl _|apply Drawn0.step)⟩
   ·rw [if_neg c3] at H
    have an := decide_eq_false c3
    clear c3
    obtain rfl := Option.some.inj H
    go_wp2
    go_ret
    exact ⟨by first|rfl|(simp;done)|(simp [*];done),by repeat (first|exact Drawn0.refl _|apply Drawn0.step)⟩
end Go.Proofs.YtgadbpljlpclnaaGreatDoor.H
