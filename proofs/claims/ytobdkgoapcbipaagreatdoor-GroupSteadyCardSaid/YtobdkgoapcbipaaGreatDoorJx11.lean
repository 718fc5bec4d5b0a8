import Derived.Test.YtobdkgoapcbipaaGreatDoorJx0
import Derived.Test.YtobdkgoapcbipaaGreatDoorJx2
import Derived.Test.YtobdkgoapcbipaaGreatDoorJx6
import Derived.Test.YtobdkgoapcbipaaGreatDoorJx7
import Derived.Test.YtobdkgoapcbipaaGreatDoorJx8
import Derived.Test.YtobdkgoapcbipaaGreatDoorJx9
import Derived.Test.YtobdkgoapcbipaaGreatDoorJx10
namespace Go.Proofs.YtobdkgoapcbipaaGreatDoor.J
open Go.RowKit Go.Proofs.YtobdkgoapcbipaaGreatDoorW.PrintWords Go.Proofs.YtobdkgoapcbipaaGreatDoorW.PrintLast Go.Proofs.YtobdkgoapcbipaaGreatDoorW.PrintMore
set_option maxHeartbeats 4000000
set_option maxRecDepth 100000
attribute [local go_sem] max2_int min2_int max_two min_two max_three min_three max_four min_four
set_option linter.unusedVariables false
set_option linter.unusedSimpArgs false

/-! ### l43_alive: function 9 -/
def l43_alive.f (k : Nat)  : Option (Bool) := (l43_example.f).bind fun aa => ((group_Right.f k aa).bind fun af => (if af = 0 then ((group_Users.f k aa (⟨#[97]⟩ : ByteArray)).bind fun ag => ((r05_Same.f k ag (([1, 2, 3, 4] : List Int))).bind fun ah => (if ah = true then ((group_Of.f k aa 4).bind fun ai => ((r14_SameText.f k ai (([(⟨#[97]⟩ : ByteArray), (⟨#[98]⟩ : ByteArray), (⟨#[99]⟩ : ByteArray)] : List ByteArray))).bind fun aj => (if aj = true then ((group_Depth.f k aa (⟨#[97]⟩ : ByteArray)).bind fun ak => (if ak = 3 then ((group_In.f k aa (⟨#[98]⟩ : ByteArray) 4).bind fun al => (if al = true then ((group_In.f k aa (⟨#[99]⟩ : ByteArray) 1).bind fun am => (if am = true then (none) else ((group_Set.f k aa (⟨#[99]⟩ : ByteArray) ([] : List Int) (([(⟨#[97]⟩ : ByteArray)] : List ByteArray))).bind fun ac => ((group_Drop.f k aa (⟨#[98]⟩ : ByteArray)).bind fun ad => ((group_Drop.f k aa (⟨#[97]⟩ : ByteArray)).bind fun ab => ((group_Drop.f k aa (⟨#[100]⟩ : ByteArray)).bind fun ae => (if ac.2 = 10 then (if ad.2 = 15 then (if ab.2 = 0 then (if ae.2 = 8 then (if 1 ≤ (aa.length : Int) then ((r43_Same.f k ab.1 (aa.drop 1)).bind fun an => (if an = true then ((group_Right.f k (([(⟨(⟨#[120, 47, 121]⟩ : ByteArray), ([] : List Int), ([] : List ByteArray)⟩ : S36)] : List (S36)))).bind fun ao => (if ao = 3 then ((group_Right.f k (([(⟨(⟨#[120]⟩ : ByteArray), (([0] : List Int)), ([] : List ByteArray)⟩ : S36)] : List (S36)))).bind fun ap => (if ap = 2 then ((group_Right.f k (([(⟨(⟨#[120]⟩ : ByteArray), (([1, 1] : List Int)), ([] : List ByteArray)⟩ : S36)] : List (S36)))).bind fun aq => (some (aq == 7))) else (none))) else (none))) else (none))) else (none)) else (none)) else (none)) else (none)) else (none)))))))) else (none))) else (none))) else (none)))) else (none)))) else (none)))
theorem l43_alive.mono : ∀ k, LeO (l43_alive.f k ) (l43_alive.f (k + 1) ) := by
 intro  k
 unfold l43_alive.f
 repeat' (with_reducible first|exact r05_Same.mono _ _ _|exact r14_SameText.mono _ _ _|exact r43_Same.mono _ _ _|exact group_Depth.mono _ _ _|exact group_Drop.mono _ _ _|exact group_In.mono _ _ _ _|exact group_Of.mono _ _ _|exact group_Right.mono _ _|exact group_Set.mono _ _ _ _ _|exact group_Users.mono _ _ _|exact LeO.refl _|exact LeO.none _|refine LeO.ite ?_ ?_|refine LeO.bind ?_ (fun _ => ?_))
theorem l43_alive.calls (k : Nat)  (r : Bool) (w : World) (h : l43_alive.f k  = some r) :
  Calls Tryz.prog 9 #[] w fun e w' => e = .returned (.bool r) ∧ Below w.heap.size w w' := by
 have dk := Tryz.underlying36
 have HB := aK (Below.refl w.heap.size w)
 unfold l43_alive.f at h
 have H := h
 clear h
 replace H := Option.bind_eq_some_iff.mp H
 obtain ⟨ad,cm,H⟩ := H
 have A1 := aK cm
 clear cm
 replace H := Option.bind_eq_some_iff.mp H
 obtain ⟨b1,cN,H⟩ := H
 have A2 := aK cN
 clear cN
 by_cases c3 : b1 = 0
 ·rw [if_pos c3] at H
  have dl := beq_iff_eq.mpr c3
  have dm := bne_eq_false_iff_eq.mpr c3
  clear c3
  replace H := Option.bind_eq_some_iff.mp H
  obtain ⟨aq,cO,H⟩ := H
  have A4 := aK cO
  clear cO
  obtain ⟨au,a8⟩ : ∃ y_ : List Int,y_ = (([1,2,3,4] : List Int)) := ⟨_,rfl⟩
  replace H : ((r05_Same.f k aq au).bind fun b2 => (if b2 = true then ((group_Of.f k ad 4).bind fun ap => ((r14_SameText.f k ap (([(⟨#[97]⟩ : ByteArray),(⟨#[98]⟩ : ByteArray),(⟨#[99]⟩ : ByteArray)] : List ByteArray))).bind fun bF => (if bF = true then ((group_Depth.f k ad (⟨#[97]⟩ : ByteArray)).bind fun bq => (if bq = 3 then ((group_In.f k ad (⟨#[98]⟩ : ByteArray) 4).bind fun bH => (if bH = true then ((group_In.f k ad (⟨#[99]⟩ : ByteArray) 1).bind fun br => (if br = true then (none) else ((group_Set.f k ad (⟨#[99]⟩ : ByteArray) ([] : List Int) (([(⟨#[97]⟩ : ByteArray)] : List ByteArray))).bind fun a9 => ((group_Drop.f k ad (⟨#[98]⟩ : ByteArray)).bind fun a1 => ((group_Drop.f k ad (⟨#[97]⟩ : ByteArray)).bind fun aB => ((group_Drop.f k ad (⟨#[100]⟩ : ByteArray)).bind fun aO => (if a9.2 = 10 then (if a1.2 = 15 then (if aB.2 = 0 then (if aO.2 = 8 then (if 1 ≤ (ad.length : Int) then ((r43_Same.f k aB.1 (ad.drop 1)).bind fun aR => (if aR = true then ((group_Right.f k (([(⟨(⟨#[120,47,121]⟩ : ByteArray),([] : List Int),([] : List ByteArray)⟩ : S36)] : List (S36)))).bind fun aL => (if aL = 3 then ((group_Right.f k (([(⟨(⟨#[120]⟩ : ByteArray),(([0] : List Int)),([] : List ByteArray)⟩ : S36)] : List (S36)))).bind fun av => (if av = 2 then ((group_Right.f k (([(⟨(⟨#[120]⟩ : ByteArray),(([1,1] : List Int)),([] : List ByteArray)⟩ : S36)] : List (S36)))).bind fun ao => (some (ao == 7))) else (none))) else (none))) else (none))) else (none)) else (none)) else (none)) else (none)) else (none)))))))) else (none))) else (none))) else (none)))) else (none))) = some r := by first|(rw [a8];with_reducible exact H)|(have aP := (Option.bind_some _ _).symm.trans H;rw [a8];with_reducible exact aP)|(have aP := (Option.bind_some _ _).symm.trans H;with_reducible exact aP)|with_reducible exact H|(rw [a8];exact H)|exact H
  have bL := aK a8
  clear a8
  replace H := Option.bind_eq_some_iff.mp H
  obtain ⟨b2,cP,H⟩ := H
  have A5 := aK cP
  clear cP
  obtain ⟨c6,H⟩ := iS H
  subst c6
  replace H := Option.bind_eq_some_iff.mp H
  obtain ⟨ap,cQ,H⟩ := H
  have A7 := aK cQ
  clear cQ
  obtain ⟨aw,ba⟩ : ∃ y_ : List ByteArray,y_ = (([(⟨#[97]⟩ : ByteArray),(⟨#[98]⟩ : ByteArray),(⟨#[99]⟩ : ByteArray)] : List ByteArray)) := ⟨_,rfl⟩
  replace H : ((r14_SameText.f k ap aw).bind fun bF => (if bF = true then ((group_Depth.f k ad (⟨#[97]⟩ : ByteArray)).bind fun bq => (if bq = 3 then ((group_In.f k ad (⟨#[98]⟩ : ByteArray) 4).bind fun bH => (if bH = true then ((group_In.f k ad (⟨#[99]⟩ : ByteArray) 1).bind fun br => (if br = true then (none) else ((group_Set.f k ad (⟨#[99]⟩ : ByteArray) ([] : List Int) (([(⟨#[97]⟩ : ByteArray)] : List ByteArray))).bind fun a9 => ((group_Drop.f k ad (⟨#[98]⟩ : ByteArray)).bind fun a1 => ((group_Drop.f k ad (⟨#[97]⟩ : ByteArray)).bind fun aB => ((group_Drop.f k ad (⟨#[100]⟩ : ByteArray)).bind fun aO => (if a9.2 = 10 then (if a1.2 = 15 then (if aB.2 = 0 then (if aO.2 = 8 then (if 1 ≤ (ad.length : Int) then ((r43_Same.f k aB.1 (ad.drop 1)).bind fun aR => (if aR = true then ((group_Right.f k (([(⟨(⟨#[120,47,121]⟩ : ByteArray),([] : List Int),([] : List ByteArray)⟩ : S36)] : List (S36)))).bind fun aL => (if aL = 3 then ((group_Right.f k (([(⟨(⟨#[120]⟩ : ByteArray),(([0] : List Int)),([] : List ByteArray)⟩ : S36)] : List (S36)))).bind fun av => (if av = 2 then ((group_Right.f k (([(⟨(⟨#[120]⟩ : ByteArray),(([1,1] : List Int)),([] : List ByteArray)⟩ : S36)] : List (S36)))).bind fun ao => (some (ao == 7))) else (none))) else (none))) else (none))) else (none)) else (none)) else (none)) else (none)) else (none)))))))) else (none))) else (none))) else (none))) = some r := by first|(rw [ba];with_reducible exact H)|(have aP := (Option.bind_some _ _).symm.trans H;rw [ba];with_reducible exact aP)|(have aP := (Option.bind_some _ _).symm.trans H;with_reducible exact aP)|with_reducible exact H|(rw [ba];exact H)|exact H
  have bN := aK ba
  clear ba
  replace H := Option.bind_eq_some_iff.mp H
  obtain ⟨bF,cR,H⟩ := H
  have A8 := aK cR
  clear cR
  obtain ⟨c9,H⟩ := iS H
  subst c9
  replace H := Option.bind_eq_some_iff.mp H
  obtain ⟨bq,b3,H⟩ := H
  have cm := aK b3
  clear b3
  obtain ⟨co,H⟩ := iS H
  have cS := beq_iff_eq.mpr co
  have cT := bne_eq_false_iff_eq.mpr co
  clear co
  replace H := Option.bind_eq_some_iff.mp H
  obtain ⟨bH,b4,H⟩ := H
  have dn := aK b4
  clear b4
  obtain ⟨dp,H⟩ := iS H
  subst dp
  replace H := Option.bind_eq_some_iff.mp H
  obtain ⟨br,b5,H⟩ := H
  have dq := aK b5
  clear b5
  by_cases cn : br = true
  ·subst cn
   rw [if_pos rfl] at H
   exact absurd H (by simp)
  ·replace cn := Bool.eq_false_iff.mpr cn
   subst cn
   rw [if_neg (show ¬ (false = true) by decide)] at H
   obtain ⟨ar,bb⟩ : ∃ y_ : List ByteArray,y_ = (([(⟨#[97]⟩ : ByteArray)] : List ByteArray)) := ⟨_,rfl⟩
   replace H : ((group_Set.f k ad (⟨#[99]⟩ : ByteArray) ([] : List Int) ar).bind fun a9 => ((group_Drop.f k ad (⟨#[98]⟩ : ByteArray)).bind fun a1 => ((group_Drop.f k ad (⟨#[97]⟩ : ByteArray)).bind fun aB => ((group_Drop.f k ad (⟨#[100]⟩ : ByteArray)).bind fun aO => (if a9.2 = 10 then (if a1.2 = 15 then (if aB.2 = 0 then (if aO.2 = 8 then (if 1 ≤ (ad.length : Int) then ((r43_Same.f k aB.1 (ad.drop 1)).bind fun aR => (if aR = true then ((group_Right.f k (([(⟨(⟨#[120,47,121]⟩ : ByteArray),([] : List Int),([] : List ByteArray)⟩ : S36)] : List (S36)))).bind fun aL => (if aL = 3 then ((group_Right.f k (([(⟨(⟨#[120]⟩ : ByteArray),(([0] : List Int)),([] : List ByteArray)⟩ : S36)] : List (S36)))).bind fun av => (if av = 2 then ((group_Right.f k (([(⟨(⟨#[120]⟩ : ByteArray),(([1,1] : List Int)),([] : List ByteArray)⟩ : S36)] : List (S36)))).bind fun ao => (some (ao == 7))) else (none))) else (none))) else (none))) else (none)) else (none)) else (none)) else (none)) else (none)))))) = some r := by first|(rw [bb];with_reducible exact H)|(have aP := (Option.bind_some _ _).symm.trans H;rw [bb];with_reducible exact aP)|(have aP := (Option.bind_some _ _).symm.trans H;with_reducible exact aP)|with_reducible exact H|(rw [bb];exact H)|exact H
   have bO := aK bb
   clear bb
   replace H := Option.bind_eq_some_iff.mp H
   obtain ⟨⟨cp,bs⟩,b6,H⟩ := H
   replace H : ((group_Drop.f k ad (⟨#[98]⟩ : ByteArray)).bind fun a1 => ((group_Drop.f k ad (⟨#[97]⟩ : ByteArray)).bind fun aB => ((group_Drop.f k ad (⟨#[100]⟩ : ByteArray)).bind fun aO => (if bs = 10 then (if a1.2 = 15 then (if aB.2 = 0 then (if aO.2 = 8 then (if 1 ≤ (ad.length : Int) then ((r43_Same.f k aB.1 (ad.drop 1)).bind fun aR => (if aR = true then ((group_Right.f k (([(⟨(⟨#[120,47,121]⟩ : ByteArray),([] : List Int),([] : List ByteArray)⟩ : S36)] : List (S36)))).bind fun aL => (if aL = 3 then ((group_Right.f k (([(⟨(⟨#[120]⟩ : ByteArray),(([0] : List Int)),([] : List ByteArray)⟩ : S36)] : List (S36)))).bind fun av => (if av = 2 then ((group_Right.f k (([(⟨(⟨#[120]⟩ : ByteArray),(([1,1] : List Int)),([] : List ByteArray)⟩ : S36)] : List (S36)))).bind fun ao => (some (ao == 7))) else (none))) else (none))) else (none))) else (none)) else (none)) else (none)) else (none)) else (none))))) = some r := H
   have dr := aK b6
   clear b6
   replace H := Option.bind_eq_some_iff.mp H
   obtain ⟨⟨cq,bI⟩,b7,H⟩ := H
   replace H : ((group_Drop.f k ad (⟨#[97]⟩ : ByteArray)).bind fun aB => ((group_Drop.f k ad (⟨#[100]⟩ : ByteArray)).bind fun aO => (if bs = 10 then (if bI = 15 then (if aB.2 = 0 then (if aO.2 = 8 then (if 1 ≤ (ad.length : Int) then ((r43_Same.f k aB.1 (ad.drop 1)).bind fun aR => (if aR = true then ((group_Right.f k (([(⟨(⟨#[120,47,121]⟩ : ByteArray),([] : List Int),([] : List ByteArray)⟩ : S36)] : List (S36)))).bind fun aL => (if aL = 3 then ((group_Right.f k (([(⟨(⟨#[120]⟩ : ByteArray),(([0] : List Int)),([] : List ByteArray)⟩ : S36)] : List (S36)))).bind fun av => (if av = 2 then ((group_Right.f k (([(⟨(⟨#[120]⟩ : ByteArray),(([1,1] : List Int)),([] : List ByteArray)⟩ : S36)] : List (S36)))).bind fun ao => (some (ao == 7))) else (none))) else (none))) else (none))) else (none)) else (none)) else (none)) else (none)) else (none)))) = some r := H
   have ds := aK b7
   clear b7
   replace H := Option.bind_eq_some_iff.mp H
   obtain ⟨⟨aN,bY⟩,b8,H⟩ := H
   replace H : ((group_Drop.f k ad (⟨#[100]⟩ : ByteArray)).bind fun aO => (if bs = 10 then (if bI = 15 then (if bY = 0 then (if aO.2 = 8 then (if 1 ≤ (ad.length : Int) then ((r43_Same.f k aN (ad.drop 1)).bind fun aR => (if aR = true then ((group_Right.f k (([(⟨(⟨#[120,47,121]⟩ : ByteArray),([] : List Int),([] : List ByteArray)⟩ : S36)] : List (S36)))).bind fun aL => (if aL = 3 then ((group_Right.f k (([(⟨(⟨#[120]⟩ : ByteArray),(([0] : List Int)),([] : List ByteArray)⟩ : S36)] : List (S36)))).bind fun av => (if av = 2 then ((group_Right.f k (([(⟨(⟨#[120]⟩ : ByteArray),(([1,1] : List Int)),([] : List ByteArray)⟩ : S36)] : List (S36)))).bind fun ao => (some (ao == 7))) else (none))) else (none))) else (none))) else (none)) else (none)) else (none)) else (none)) else (none))) = some r := H
   have dt := aK b8
   clear b8
   replace H := Option.bind_eq_some_iff.mp H
   obtain ⟨⟨cr,b9⟩,ca,H⟩ := H
   replace H : (if bs = 10 then (if bI = 15 then (if bY = 0 then (if b9 = 8 then (if 1 ≤ (ad.length : Int) then ((r43_Same.f k aN (ad.drop 1)).bind fun aR => (if aR = true then ((group_Right.f k (([(⟨(⟨#[120,47,121]⟩ : ByteArray),([] : List Int),([] : List ByteArray)⟩ : S36)] : List (S36)))).bind fun aL => (if aL = 3 then ((group_Right.f k (([(⟨(⟨#[120]⟩ : ByteArray),(([0] : List Int)),([] : List ByteArray)⟩ : S36)] : List (S36)))).bind fun av => (if av = 2 then ((group_Right.f k (([(⟨(⟨#[120]⟩ : ByteArray),(([1,1] : List Int)),([] : List ByteArray)⟩ : S36)] : List (S36)))).bind fun ao => (some (ao == 7))) else (none))) else (none))) else (none))) else (none)) else (none)) else (none)) else (none)) else (none)) = some r := H
   have du := aK ca
   clear ca
   obtain ⟨cs,H⟩ := iS H
   have cU := beq_iff_eq.mpr cs
   have cV := bne_eq_false_iff_eq.mpr cs
   clear cs
   obtain ⟨ct,H⟩ := iS H
   have cW := beq_iff_eq.mpr ct
   have cX := bne_eq_false_iff_eq.mpr ct
   clear ct
   obtain ⟨cu,H⟩ := iS H
   have cY := beq_iff_eq.mpr cu
   have cZ := bne_eq_false_iff_eq.mpr cu
   clear cu
   obtain ⟨cv,H⟩ := iS H
   have c0 := beq_iff_eq.mpr cv
   have da := bne_eq_false_iff_eq.mpr cv
   clear cv
   obtain ⟨cw,H⟩ := iS H
   have db := eq_true cw
   have dc := decide_eq_true cw
   clear cw
   obtain ⟨a7,bc⟩ : ∃ y_ : List (S36),y_ = (ad.drop 1) := ⟨_,rfl⟩
   replace H : ((r43_Same.f k aN a7).bind fun aR => (if aR = true then ((group_Right.f k (([(⟨(⟨#[120,47,121]⟩ : ByteArray),([] : List Int),([] : List ByteArray)⟩ : S36)] : List (S36)))).bind fun aL => (if aL = 3 then ((group_Right.f k (([(⟨(⟨#[120]⟩ : ByteArray),(([0] : List Int)),([] : List ByteArray)⟩ : S36)] : List (S36)))).bind fun av => (if av = 2 then ((group_Right.f k (([(⟨(⟨#[120]⟩ : ByteArray),(([1,1] : List Int)),([] : List ByteArray)⟩ : S36)] : List (S36)))).bind fun ao => (some (ao == 7))) else (none))) else (none))) else (none))) = some r := by first|(rw [bc];with_reducible exact H)|(have aP := (Option.bind_some _ _).symm.trans H;rw [bc];with_reducible exact aP)|(have aP := (Option.bind_some _ _).symm.trans H;with_reducible exact aP)|with_reducible exact H|(rw [bc];exact H)|exact H
   have bP := aK bc
   clear bc
   replace H := Option.bind_eq_some_iff.mp H
   obtain ⟨aR,cb,H⟩ := H
   have dv := aK cb
   clear cb
   obtain ⟨dw,H⟩ := iS H
   subst dw
   obtain ⟨aV,bd⟩ : ∃ y_ : List (S36),y_ = (([(⟨(⟨#[120,47,121]⟩ : ByteArray),([] : List Int),([] : List ByteArray)⟩ : S36)] : List (S36))) := ⟨_,rfl⟩
   replace H : ((group_Right.f k aV).bind fun aL => (if aL = 3 then ((group_Right.f k (([(⟨(⟨#[120]⟩ : ByteArray),(([0] : List Int)),([] : List ByteArray)⟩ : S36)] : List (S36)))).bind fun av => (if av = 2 then ((group_Right.f k (([(⟨(⟨#[120]⟩ : ByteArray),(([1,1] : List Int)),([] : List ByteArray)⟩ : S36)] : List (S36)))).bind fun ao => (some (ao == 7))) else (none))) else (none))) = some r := by first|(rw [bd];with_reducible exact H)|(have aP := (Option.bind_some _ _).symm.trans H;rw [bd];with_reducible exact aP)|(have aP := (Option.bind_some _ _).symm.trans H;with_reducible exact aP)|with_reducible exact H|(rw [bd];exact H)|exact H
   have bQ := aK bd
   clear bd
   replace H := Option.bind_eq_some_iff.mp H
   obtain ⟨aL,cc,H⟩ := H
   have dx := aK cc
   clear cc
   obtain ⟨cx,H⟩ := iS H
   have dd := beq_iff_eq.mpr cx
   have de := bne_eq_false_iff_eq.mpr cx
   clear cx
   obtain ⟨bk,be⟩ : ∃ y_ : List Int,y_ = (([0] : List Int)) := ⟨_,rfl⟩
   replace H : ((group_Right.f k (([(⟨(⟨#[120]⟩ : ByteArray),bk,([] : List ByteArray)⟩ : S36)] : List (S36)))).bind fun av => (if av = 2 then ((group_Right.f k (([(⟨(⟨#[120]⟩ : ByteArray),(([1,1] : List Int)),([] : List ByteArray)⟩ : S36)] : List (S36)))).bind fun ao => (some (ao == 7))) else (none))) = some r := by first|(rw [be];with_reducible exact H)|(have aP := (Option.bind_some _ _).symm.trans H;rw [be];with_reducible exact aP)|(have aP := (Option.bind_some _ _).symm.trans H;with_reducible exact aP)|with_reducible exact H|(rw [be];exact H)|exact H
   have bR := aK be
   clear be
   obtain ⟨bm,bf⟩ : ∃ y_ : List (S36),y_ = (([(⟨(⟨#[120]⟩ : ByteArray),bk,([] : List ByteArray)⟩ : S36)] : List (S36))) := ⟨_,rfl⟩
   replace H : ((group_Right.f k bm).bind fun av => (if av = 2 then ((group_Right.f k (([(⟨(⟨#[120]⟩ : ByteArray),(([1,1] : List Int)),([] : List ByteArray)⟩ : S36)] : List (S36)))).bind fun ao => (some (ao == 7))) else (none))) = some r := by first|(rw [bf];with_reducible exact H)|(have aP := (Option.bind_some _ _).symm.trans H;rw [bf];with_reducible exact aP)|(have aP := (Option.bind_some _ _).symm.trans H;with_reducible exact aP)|with_reducible exact H|(rw [bf];exact H)|exact H
   have bS := aK bf
   clear bf
   replace H := Option.bind_eq_some_iff.mp H
   obtain ⟨av,cd,H⟩ := H
   have dy := aK cd
   clear cd
   obtain ⟨cy,H⟩ := iS H
   have df := beq_iff_eq.mpr cy
   have dg := bne_eq_false_iff_eq.mpr cy
   clear cy
   obtain ⟨bn,bg⟩ : ∃ y_ : List Int,y_ = (([1,1] : List Int)) := ⟨_,rfl⟩
   replace H : ((group_Right.f k (([(⟨(⟨#[120]⟩ : ByteArray),bn,([] : List ByteArray)⟩ : S36)] : List (S36)))).bind fun ao => (some (ao == 7))) = some r := by first|(rw [bg];with_reducible exact H)|(have aP := (Option.bind_some _ _).symm.trans H;rw [bg];with_reducible exact aP)|(have aP := (Option.bind_some _ _).symm.trans H;with_reducible exact aP)|with_reducible exact H|(rw [bg];exact H)|exact H
   have bT := aK bg
   clear bg
   obtain ⟨ce,bh⟩ : ∃ y_ : List (S36),y_ = (([(⟨(⟨#[120]⟩ : ByteArray),bn,([] : List ByteArray)⟩ : S36)] : List (S36))) := ⟨_,rfl⟩
   replace H : ((group_Right.f k ce).bind fun ao => (some (ao == 7))) = some r := by first|(rw [bh];with_reducible exact H)|(have aP := (Option.bind_some _ _).symm.trans H;rw [bh];with_reducible exact aP)|(have aP := (Option.bind_some _ _).symm.trans H;with_reducible exact aP)|with_reducible exact H|(rw [bh];exact H)|exact H
   have bU := aK bh
   clear bh
   replace H := Option.bind_eq_some_iff.mp H
   obtain ⟨ao,cf,H⟩ := H
   have dz := aK cf
   clear cf
   obtain rfl := Option.some.inj H
   go_enter Tryz.func9,Tryz.ntmps9
   go_wp2_with (first|((with_reducible refine gate_callee (f := 32) rfl ?_);refine gL 10 Tryz.func32 #[] ?_;(with_reducible refine (l43_example.calls  ad _ A1.out).mono ?_);rintro e dU ⟨dB,rfl,aS,hb⟩;refine ⟨_,rfl,?_⟩;have aa := aK (Kd.N_lower (Kd.N_mono (ok' := fun k_ => True) aS (fun k_ hk_ => trivial)) (below_size (bM HB.out)));replace HB := aK (below_step (bM HB.out) hb);(try clear hb);(try clear hk);(try clear aS);obtain ⟨ay,ax,cz⟩ := Kd.N_slice aa.out;subst cz)|((with_reducible refine gate_callee (f := 11) rfl ?_);refine gL 12 Tryz.func11 #[.slice ay ad.length ax] ?_;(with_reducible refine (group_Right.calls k _ _ ad b1 _ ?ah ?al A2.out).mono ?_);(case ah => exact cM (Kd.N_reads' aa.out).2.2);(case al => exact (Kd.N_reads' aa.out).2.1);rintro e dV ⟨rfl,hb⟩;refine ⟨_,rfl,?_⟩;replace aa := aK (Kd.N_below (nM aa.out) hb);replace HB := aK (below_step (bM HB.out) hb);(try clear hb);(try clear hk))|(go_at_call 14;(with_reducible refine (group_Users.calls k _ _ ad (⟨#[97]⟩ : ByteArray) aq _ ?ah ?al A4.out).mono ?_);(case ah => exact cM (Kd.N_reads' aa.out).2.2);(case al => exact (Kd.N_reads' aa.out).2.1);rintro e dW ⟨dC,rfl,aS,hb⟩;replace aa := aK (Kd.N_elder' (nM aa.out) (Kd.R_base aS) hb);have ab := aK (Kd.R_lower aS (below_size (bM HB.out)));replace HB := aK (below_step (bM HB.out) hb);(try clear hb);(try clear hk);(try clear aS))|((with_reducible refine gate_dst (N := 17) rfl ?_);(try (refine gate_guard (by rfl) ?_;dsimp only));refine Kd.R_lit (Kd.int .i64) _ 3 ?hg (N := 17) ?hd (xs := ([1,2,3,4] : List Int)) (inner := [.int .i64 1,.int .i64 2,.int .i64 3,.int .i64 4]) (ok := fun _ => True) (okp := fun _ => True) ?hr ?hp (fun _ hk => hk) trivial (Below.refl _ _) (Nat.le_refl _) (by simp) ?_;(case hd => rfl);(case hg => rfl);(case hr => first|(go_simp;done)|(go_simp;rfl));(case hp => exact (Reps.one (show Kd.M (Kd.int .i64) _ _ _ 1 [.int .i64 1] from rfl) (Reps.one (show Kd.M (Kd.int .i64) _ _ _ 2 [.int .i64 2] from rfl) (Reps.one (show Kd.M (Kd.int .i64) _ _ _ 3 [.int .i64 3] from rfl) (Reps.one (show Kd.M (Kd.int .i64) _ _ _ 4 [.int .i64 4] from rfl) (Reps.none _ _))))));intro dD dX bo hb hg_ hnew_;clear hg_ hnew_;(first|rw [← bL.out] at bo|(simp only [Int.reduceToNat] at bo;rw [← bL.out] at bo));replace aa := aK (Kd.N_elder' (nM aa.out) (Kd.R_base bo) hb);have ac := aK (Kd.R_lower (Kd.R_new' bo (Kd.R_lt (rM ab.out))) (below_size (bM HB.out)));replace ab := aK (Kd.R_elder' (rM ab.out) (Kd.R_base bo) hb);replace HB := aK (below_step (bM HB.out) hb);clear hb bo;obtain ⟨aC,aD,cA⟩ := Kd.R_slice ab.out;subst cA;obtain ⟨aE,aF,cB⟩ := Kd.R_slice ac.out;subst cB)|(go_at_call 13;(with_reducible refine (r05_Same.calls k _ _ aq _ _ au true _ ?ah ?al ?a2 ?bi A5.out).mono ?_);(case ah => exact cM (Kd.R_reads' ab.out).2.2);(case al => exact (Kd.R_reads' ab.out).2.1);(case a2 => exact cM (Kd.R_reads' ac.out).2.2);(case bi => exact (Kd.R_reads' ac.out).2.1);rintro e w' ⟨rfl,⟨nd,rfl⟩⟩)|(go_at_call 17;(with_reducible refine (group_Of.calls k _ _ ad 4 ap _ ?ah ?al A7.out).mono ?_);(case ah => exact cM (Kd.N_reads' aa.out).2.2);(case al => exact (Kd.N_reads' aa.out).2.1);rintro e dY ⟨dE,rfl,aS,hb⟩;replace aa := aK (Kd.N_elder' (nM aa.out) (Kd.R_base aS) hb);replace ab := aK (Kd.R_below (rM ab.out) hb);replace ac := aK (Kd.R_below (rM ac.out) hb);have ae := aK (Kd.R_lower aS (below_size (bM HB.out)));replace HB := aK (below_step (bM HB.out) hb);(try clear hb);(try clear hk);(try clear aS))|((with_reducible refine gate_dst (N := 24) rfl ?_);(try (refine gate_guard (by rfl) ?_;dsimp only));refine Kd.R_lit Kd.string _ 9 ?hg (N := 24) ?hd (xs := ([(⟨#[97]⟩ : ByteArray),(⟨#[98]⟩ : ByteArray),(⟨#[99]⟩ : ByteArray)] : List ByteArray)) (inner := [.string (⟨#[97]⟩ : ByteArray),.string (⟨#[98]⟩ : ByteArray),.string (⟨#[99]⟩ : ByteArray)]) (ok := fun _ => True) (okp := fun _ => True) ?hr ?hp (fun _ hk => hk) trivial (Below.refl _ _) (Nat.le_refl _) (by simp) ?_;(case hd => rfl);(case hg => rfl);(case hr => first|(go_simp;done)|(go_simp;rfl));(case hp => exact (Reps.one (show Kd.M Kd.string _ _ _ (⟨#[97]⟩ : ByteArray) [.string (⟨#[97]⟩ : ByteArray)] from rfl) (Reps.one (show Kd.M Kd.string _ _ _ (⟨#[98]⟩ : ByteArray) [.string (⟨#[98]⟩ : ByteArray)] from rfl) (Reps.one (show Kd.M Kd.string _ _ _ (⟨#[99]⟩ : ByteArray) [.string (⟨#[99]⟩ : ByteArray)] from rfl) (Reps.none _ _)))));intro dF dZ bp hb hg_ hnew_;clear hg_ hnew_;(first|rw [← bN.out] at bp|(simp only [Int.reduceToNat] at bp;rw [← bN.out] at bp));replace aa := aK (Kd.N_elder' (nM aa.out) (Kd.R_base bp) hb);replace ab := aK (Kd.R_below (rM ab.out) hb);replace ac := aK (Kd.R_below (rM ac.out) hb);have af := aK (Kd.R_lower (Kd.R_new' bp (Kd.R_lt (rM ae.out))) (below_size (bM HB.out)));replace ae := aK (Kd.R_elder' (rM ae.out) (Kd.R_base bp) hb);replace HB := aK (below_step (bM HB.out) hb);clear hb bp;obtain ⟨aG,aH,cC⟩ := Kd.R_slice ae.out;subst cC;obtain ⟨aI,aJ,cD⟩ := Kd.R_slice af.out;subst cD)|(go_at_call 16;(with_reducible refine (r14_SameText.calls k _ _ ap _ _ aw true _ ?ah ?al ?a2 ?bi A8.out).mono ?_);(case ah => exact cM (Kd.R_reads' ae.out).2.2);(case al => exact (Kd.R_reads' ae.out).2.1);(case a2 => exact cM (Kd.R_reads' af.out).2.2);(case bi => exact (Kd.R_reads' af.out).2.1);rintro e w' ⟨rfl,⟨nd,rfl⟩⟩)|(go_at_call 21;(with_reducible refine (group_Depth.calls k _ _ ad (⟨#[97]⟩ : ByteArray) bq _ ?ah ?al cm.out).mono ?_);(case ah => exact cM (Kd.N_reads' aa.out).2.2);(case al => exact (Kd.N_reads' aa.out).2.1);rintro e d0 ⟨rfl,hb⟩;replace aa := aK (Kd.N_below (nM aa.out) hb);replace ab := aK (Kd.R_below (rM ab.out) hb);replace ac := aK (Kd.R_below (rM ac.out) hb);replace ae := aK (Kd.R_below (rM ae.out) hb);replace af := aK (Kd.R_below (rM af.out) hb);replace HB := aK (below_step (bM HB.out) hb);(try clear hb);(try clear hk))|(go_at_call 19;(with_reducible refine (group_In.calls k _ _ ad (⟨#[98]⟩ : ByteArray) 4 true _ ?ah ?al dn.out).mono ?_);(case ah => exact cM (Kd.N_reads' aa.out).2.2);(case al => exact (Kd.N_reads' aa.out).2.1);rintro e d1 ⟨rfl,hb⟩;replace aa := aK (Kd.N_below (nM aa.out) hb);replace ab := aK (Kd.R_below (rM ab.out) hb);replace ac := aK (Kd.R_below (rM ac.out) hb);replace ae := aK (Kd.R_below (rM ae.out) hb);replace af := aK (Kd.R_below (rM af.out) hb);replace HB := aK (below_step (bM HB.out) hb);(try clear hb);(try clear hk))|(go_at_call 19;(with_reducible refine (group_In.calls k _ _ ad (⟨#[99]⟩ : ByteArray) 1 false _ ?ah ?al dq.out).mono ?_);(case ah => exact cM (Kd.N_reads' aa.out).2.2);(case al => exact (Kd.N_reads' aa.out).2.1);rintro e d2 ⟨rfl,hb⟩;replace aa := aK (Kd.N_below (nM aa.out) hb);replace ab := aK (Kd.R_below (rM ab.out) hb);replace ac := aK (Kd.R_below (rM ac.out) hb);replace ae := aK (Kd.R_below (rM ae.out) hb);replace af := aK (Kd.R_below (rM af.out) hb);replace HB := aK (below_step (bM HB.out) hb);(try clear hb);(try clear hk))|((with_reducible refine gate_dst (N := 44) rfl ?_);(try (refine gate_guard (by rfl) ?_;dsimp only));refine Kd.R_lit Kd.string _ 9 ?hg (N := 44) ?hd (xs := ([(⟨#[97]⟩ : ByteArray)] : List ByteArray)) (inner := [.string (⟨#[97]⟩ : ByteArray)]) (ok := fun _ => True) (okp := fun _ => True) ?hr ?hp (fun _ hk => hk) trivial (Below.refl _ _) (Nat.le_refl _) (by simp) ?_;(case hd => rfl);(case hg => rfl);(case hr => first|(go_simp;done)|(go_simp;rfl));(case hp => exact (Reps.one (show Kd.M Kd.string _ _ _ (⟨#[97]⟩ : ByteArray) [.string (⟨#[97]⟩ : ByteArray)] from rfl) (Reps.none _ _)));intro dG d3 bj hb hg_ hnew_;clear hg_ hnew_;(first|rw [← bO.out] at bj|(simp only [Int.reduceToNat] at bj;rw [← bO.out] at bj));replace aa := aK (Kd.N_elder' (nM aa.out) (Kd.R_base bj) hb);replace ab := aK (Kd.R_below (rM ab.out) hb);replace ac := aK (Kd.R_below (rM ac.out) hb);have ag := aK (Kd.R_lower (Kd.R_new' (Kd.R_new' bj (Kd.R_lt (rM ae.out))) (Kd.R_lt (rM af.out))) (below_size (bM HB.out)));replace ae := aK (Kd.R_elder' (rM ae.out) (Kd.R_base bj) hb);replace af := aK (Kd.R_elder' (rM af.out) (Kd.R_base bj) hb);replace HB := aK (below_step (bM HB.out) hb);clear hb bj;obtain ⟨az,aA,cE⟩ := Kd.R_slice ag.out;subst cE)|(go_at_call 23;refine calls_of_args (args' := #[.slice ay ad.length ax,.agg #[.string (⟨#[99]⟩ : ByteArray),.slice none ([] : List Int).length 0,.slice az ar.length aA]]) (by first|with_reducible rfl|(simp only [List.length_nil];done)|(simp only [List.length_nil];with_reducible rfl)) ?_;(with_reducible refine (group_Set.calls k (fun k_ => (((((True ∧ some k_ ≠ (.slice aC aq.length aD : Value).ownBlock) ∧ some k_ ≠ (.slice aE au.length aF : Value).ownBlock) ∧ some k_ ≠ (.slice aG ap.length aH : Value).ownBlock) ∧ some k_ ≠ (.slice aI aw.length aJ : Value).ownBlock) ∧ some k_ ≠ (.slice az ar.length aA : Value).ownBlock)) _ _ ad (⟨#[99]⟩ : ByteArray) (fun k_ => False) _ _ ([] : List Int) (fun k_ => some k_ = (.slice az ar.length aA : Value).ownBlock) _ _ ar cp bs _ ?ah ?al ?a2 dr.out).mono ?_);(case ah => exact Kd.N_V (aa.out));(case al => exact Kd.V_nil _ _ _ _ _);(case a2 => exact Kd.R_V (Kd.R_tight rfl (Kd.R_apart' (Kd.R_apart' (Kd.R_apart' (ag.out) (Kd.N_typed aa.out) (by decide)) (Kd.R_typed ab.out) (by decide)) (Kd.R_typed ac.out) (by decide))));rintro e d4 ⟨aM,rfl,aS,hb⟩;have ai := aK (Kd.N_lower (Kd.N_mono (ok' := fun k_ => some k_ ≠ (.slice aC aq.length aD : Value).ownBlock ∧ some k_ ≠ (.slice aE au.length aF : Value).ownBlock ∧ some k_ ≠ (.slice aG ap.length aH : Value).ownBlock ∧ some k_ ≠ (.slice aI aw.length aJ : Value).ownBlock) aS (fun k_ hk_ => ⟨Or.elim hk_ (fun hs_ => Or.elim hs_ (fun hs_ => hs_.1.1.1.1.2) (fun hs_ => Or.elim hs_ (fun hs_ => (hs_).elim) (fun hs_ => ((Kd.R_apart' (Kd.R_apart' (Kd.R_apart' (ag.out) (Kd.N_typed aa.out) (by decide)) (Kd.R_typed ab.out) (by decide)) (Kd.R_typed ac.out) (by decide)).1 k_ hs_.symm).1.2))) (fun hn_ => (Kd.fresh' (Kd.R_lt (rM ab.out)) k_ hn_)),Or.elim hk_ (fun hs_ => Or.elim hs_ (fun hs_ => hs_.1.1.1.2) (fun hs_ => Or.elim hs_ (fun hs_ => (hs_).elim) (fun hs_ => ((Kd.R_apart' (Kd.R_apart' (Kd.R_apart' (ag.out) (Kd.N_typed aa.out) (by decide)) (Kd.R_typed ab.out) (by decide)) (Kd.R_typed ac.out) (by decide)).1 k_ hs_.symm).2))) (fun hn_ => (Kd.fresh' (Kd.R_lt (rM ac.out)) k_ hn_)),Or.elim hk_ (fun hs_ => Or.elim hs_ (fun hs_ => hs_.1.1.2) (fun hs_ => Or.elim hs_ (fun hs_ => (hs_).elim) (fun hs_ => ((Kd.R_apart' (Kd.R_apart' (Kd.R_apart' (ag.out) (Kd.N_typed aa.out) (by decide)) (Kd.R_typed ab.out) (by decide)) (Kd.R_typed ac.out) (by decide)).1 k_ hs_.symm).1.1.1.1.2))) (fun hn_ => (Kd.fresh' (Kd.R_lt (rM ae.out)) k_ hn_)),Or.elim hk_ (fun hs_ => Or.elim hs_ (fun hs_ => hs_.1.2) (fun hs_ => Or.elim hs_ (fun hs_ => (hs_).elim) (fun hs_ => ((Kd.R_apart' (Kd.R_apart' (Kd.R_apart' (ag.out) (Kd.N_typed aa.out) (by decide)) (Kd.R_typed ab.out) (by decide)) (Kd.R_typed ac.out) (by decide)).1 k_ hs_.symm).1.1.1.2))) (fun hn_ => (Kd.fresh' (Kd.R_lt (rM af.out)) k_ hn_))⟩)) (below_size (bM HB.out)));replace aa := aK (Kd.N_elder' (nM aa.out) (Kd.N_base aS) hb);replace ab := aK (Kd.R_below (rM ab.out) hb);replace ac := aK (Kd.R_below (rM ac.out) hb);replace ae := aK (Kd.R_below (rM ae.out) hb);replace af := aK (Kd.R_below (rM af.out) hb);replace ag := aK (Kd.R_below (rM ag.out) hb);replace HB := aK (below_step (bM HB.out) hb);(try clear hb);(try clear hk);(try clear aS))|((with_reducible refine gate_callee (f := 26) rfl ?_);refine gL 51 Tryz.func26 #[.slice ay ad.length ax,.string (⟨#[98]⟩ : ByteArray)] ?_;(with_reducible refine (group_Drop.calls k (fun k_ => ((((((True ∧ some k_ ≠ (.slice aC aq.length aD : Value).ownBlock) ∧ some k_ ≠ (.slice aE au.length aF : Value).ownBlock) ∧ some k_ ≠ (.slice aG ap.length aH : Value).ownBlock) ∧ some k_ ≠ (.slice aI aw.length aJ : Value).ownBlock) ∧ some k_ ≠ (.slice az ar.length aA : Value).ownBlock) ∧ some k_ ≠ (aM : Value).ownBlock)) _ _ ad (⟨#[98]⟩ : ByteArray) cq bI _ ?ah ds.out).mono ?_);(case ah => exact Kd.N_V (aa.out));rintro e d5 ⟨aQ,rfl,aS,hb⟩;refine ⟨_,rfl,?_⟩;replace aa := aK (Kd.N_elder' (nM aa.out) (Kd.N_base aS) hb);have aj := aK (Kd.N_lower (Kd.N_mono (ok' := fun k_ => some k_ ≠ (.slice aC aq.length aD : Value).ownBlock ∧ some k_ ≠ (.slice aE au.length aF : Value).ownBlock ∧ some k_ ≠ (.slice aG ap.length aH : Value).ownBlock ∧ some k_ ≠ (.slice aI aw.length aJ : Value).ownBlock ∧ some k_ ≠ (.slice az ar.length aA : Value).ownBlock ∧ some k_ ≠ (aM : Value).ownBlock) aS (fun k_ hk_ => ⟨Or.elim hk_ (fun hs_ => hs_.1.1.1.1.1.2) (fun hn_ => (Kd.fresh' (Kd.R_lt (rM ab.out)) k_ hn_)),Or.elim hk_ (fun hs_ => hs_.1.1.1.1.2) (fun hn_ => (Kd.fresh' (Kd.R_lt (rM ac.out)) k_ hn_)),Or.elim hk_ (fun hs_ => hs_.1.1.1.2) (fun hn_ => (Kd.fresh' (Kd.R_lt (rM ae.out)) k_ hn_)),Or.elim hk_ (fun hs_ => hs_.1.1.2) (fun hn_ => (Kd.fresh' (Kd.R_lt (rM af.out)) k_ hn_)),Or.elim hk_ (fun hs_ => hs_.1.2) (fun hn_ => (Kd.fresh' (Kd.R_lt (rM ag.out)) k_ hn_)),Or.elim hk_ (fun hs_ => hs_.2) (fun hn_ => (Kd.fresh' (Kd.N_lt (nM ai.out)) k_ hn_))⟩)) (below_size (bM HB.out)));replace ab := aK (Kd.R_below (rM ab.out) hb);replace ac := aK (Kd.R_below (rM ac.out) hb);replace ae := aK (Kd.R_below (rM ae.out) hb);replace af := aK (Kd.R_below (rM af.out) hb);replace ag := aK (Kd.R_below (rM ag.out) hb);replace ai := aK (Kd.N_elder' (nM ai.out) (Kd.N_base aS) hb);replace HB := aK (below_step (bM HB.out) hb);(try clear hb);(try clear hk);(try clear aS))|((with_reducible refine gate_callee (f := 26) rfl ?_);refine gL 56 Tryz.func26 #[.slice ay ad.length ax,.string (⟨#[97]⟩ : ByteArray)] ?_;(with_reducible refine (group_Drop.calls k (fun k_ => (((((((True ∧ some k_ ≠ (.slice aC aq.length aD : Value).ownBlock) ∧ some k_ ≠ (.slice aE au.length aF : Value).ownBlock) ∧ some k_ ≠ (.slice aG ap.length aH : Value).ownBlock) ∧ some k_ ≠ (.slice aI aw.length aJ : Value).ownBlock) ∧ some k_ ≠ (.slice az ar.length aA : Value).ownBlock) ∧ some k_ ≠ (aM : Value).ownBlock) ∧ some k_ ≠ (aQ : Value).ownBlock)) _ _ ad (⟨#[97]⟩ : ByteArray) aN bY _ ?ah dt.out).mono ?_);(case ah => exact Kd.N_V (aa.out));rintro e d6 ⟨cg,rfl,aS,hb⟩;refine ⟨_,rfl,?_⟩;replace aa := aK (Kd.N_elder' (nM aa.out) (Kd.N_base aS) hb);have ak := aK (Kd.N_lower (Kd.N_mono (ok' := fun k_ => some k_ ≠ (.slice aC aq.length aD : Value).ownBlock ∧ some k_ ≠ (.slice aE au.length aF : Value).ownBlock ∧ some k_ ≠ (.slice aG ap.length aH : Value).ownBlock ∧ some k_ ≠ (.slice aI aw.length aJ : Value).ownBlock ∧ some k_ ≠ (.slice az ar.length aA : Value).ownBlock ∧ some k_ ≠ (aM : Value).ownBlock ∧ some k_ ≠ (aQ : Value).ownBlock) aS (fun k_ hk_ => ⟨Or.elim hk_ (fun hs_ => hs_.1.1.1.1.1.1.2) (fun hn_ => (Kd.fresh' (Kd.R_lt (rM ab.out)) k_ hn_)),Or.elim hk_ (fun hs_ => hs_.1.1.1.1.1.2) (fun hn_ => (Kd.fresh' (Kd.R_lt (rM ac.out)) k_ hn_)),Or.elim hk_ (fun hs_ => hs_.1.1.1.1.2) (fun hn_ => (Kd.fresh' (Kd.R_lt (rM ae.out)) k_ hn_)),Or.elim hk_ (fun hs_ => hs_.1.1.1.2) (fun hn_ => (Kd.fresh' (Kd.R_lt (rM af.out)) k_ hn_)),Or.elim hk_ (fun hs_ => hs_.1.1.2) (fun hn_ => (Kd.fresh' (Kd.R_lt (rM ag.out)) k_ hn_)),Or.elim hk_ (fun hs_ => hs_.1.2) (fun hn_ => (Kd.fresh' (Kd.N_lt (nM ai.out)) k_ hn_)),Or.elim hk_ (fun hs_ => hs_.2) (fun hn_ => (Kd.fresh' (Kd.N_lt (nM aj.out)) k_ hn_))⟩)) (below_size (bM HB.out)));replace ab := aK (Kd.R_below (rM ab.out) hb);replace ac := aK (Kd.R_below (rM ac.out) hb);replace ae := aK (Kd.R_below (rM ae.out) hb);replace af := aK (Kd.R_below (rM af.out) hb);replace ag := aK (Kd.R_below (rM ag.out) hb);replace ai := aK (Kd.N_elder' (nM ai.out) (Kd.N_base aS) hb);replace aj := aK (Kd.N_elder' (nM aj.out) (Kd.N_base aS) hb);replace HB := aK (below_step (bM HB.out) hb);(try clear hb);(try clear hk);(try clear aS))|((with_reducible refine gate_callee (f := 26) rfl ?_);refine gL 61 Tryz.func26 #[.slice ay ad.length ax,.string (⟨#[100]⟩ : ByteArray)] ?_;(with_reducible refine (group_Drop.calls k (fun k_ => ((((((((True ∧ some k_ ≠ (.slice aC aq.length aD : Value).ownBlock) ∧ some k_ ≠ (.slice aE au.length aF : Value).ownBlock) ∧ some k_ ≠ (.slice aG ap.length aH : Value).ownBlock) ∧ some k_ ≠ (.slice aI aw.length aJ : Value).ownBlock) ∧ some k_ ≠ (.slice az ar.length aA : Value).ownBlock) ∧ some k_ ≠ (aM : Value).ownBlock) ∧ some k_ ≠ (aQ : Value).ownBlock) ∧ some k_ ≠ (cg : Value).ownBlock)) _ _ ad (⟨#[100]⟩ : ByteArray) cr b9 _ ?ah du.out).mono ?_);(case ah => exact Kd.N_V (aa.out));rintro e d7 ⟨aW,rfl,aS,hb⟩;refine ⟨_,rfl,?_⟩;replace aa := aK (Kd.N_elder' (nM aa.out) (Kd.N_base aS) hb);have am := aK (Kd.N_lower (Kd.N_mono (ok' := fun k_ => some k_ ≠ (.slice aC aq.length aD : Value).ownBlock ∧ some k_ ≠ (.slice aE au.length aF : Value).ownBlock ∧ some k_ ≠ (.slice aG ap.length aH : Value).ownBlock ∧ some k_ ≠ (.slice aI aw.length aJ : Value).ownBlock ∧ some k_ ≠ (.slice az ar.length aA : Value).ownBlock ∧ some k_ ≠ (aM : Value).ownBlock ∧ some k_ ≠ (aQ : Value).ownBlock ∧ some k_ ≠ (cg : Value).ownBlock) aS (fun k_ hk_ => ⟨Or.elim hk_ (fun hs_ => hs_.1.1.1.1.1.1.1.2) (fun hn_ => (Kd.fresh' (Kd.R_lt (rM ab.out)) k_ hn_)),Or.elim hk_ (fun hs_ => hs_.1.1.1.1.1.1.2) (fun hn_ => (Kd.fresh' (Kd.R_lt (rM ac.out)) k_ hn_)),Or.elim hk_ (fun hs_ => hs_.1.1.1.1.1.2) (fun hn_ => (Kd.fresh' (Kd.R_lt (rM ae.out)) k_ hn_)),Or.elim hk_ (fun hs_ => hs_.1.1.1.1.2) (fun hn_ => (Kd.fresh' (Kd.R_lt (rM af.out)) k_ hn_)),Or.elim hk_ (fun hs_ => hs_.1.1.1.2) (fun hn_ => (Kd.fresh' (Kd.R_lt (rM ag.out)) k_ hn_)),Or.elim hk_ (fun hs_ => hs_.1.1.2) (fun hn_ => (Kd.fresh' (Kd.N_lt (nM ai.out)) k_ hn_)),Or.elim hk_ (fun hs_ => hs_.1.2) (fun hn_ => (Kd.fresh' (Kd.N_lt (nM aj.out)) k_ hn_)),Or.elim hk_ (fun hs_ => hs_.2) (fun hn_ => (Kd.fresh' (Kd.N_lt (nM ak.out)) k_ hn_))⟩)) (below_size (bM HB.out)));replace ab := aK (Kd.R_below (rM ab.out) hb);replace ac := aK (Kd.R_below (rM ac.out) hb);replace ae := aK (Kd.R_below (rM ae.out) hb);replace af := aK (Kd.R_below (rM af.out) hb);replace ag := aK (Kd.R_below (rM ag.out) hb);replace ai := aK (Kd.N_elder' (nM ai.out) (Kd.N_base aS) hb);replace aj := aK (Kd.N_elder' (nM aj.out) (Kd.N_base aS) hb);replace ak := aK (Kd.N_elder' (nM ak.out) (Kd.N_base aS) hb);replace HB := aK (below_step (bM HB.out) hb);(try clear hb);(try clear hk);(try clear aS);have cF : (1 : Int) ≤ ((ad.length : Int) : Int) := dA;obtain ⟨dH,bV,_,bW,_⟩ := info_parts info36;have a0 : ad.length ≤ ax := (Kd.N_reads' aa.out).2.1;have ch : Kd.F k36 _ _ ay ad.length ad := (Kd.V_at (base := w.heap.size) (Kd.N_V aa.out)).2.2;have bZ := cut_from (P := Tryz.prog) 22 36 .i64 Tryz.underlying22 bV 3 bW ay ad.length ax 1 (by omega) cF;have bu := Kd.F_cut (m := (1 : Int).toNat) (c := ax) ch (by omega) a0;obtain ⟨dh,bJ⟩ : ∃ A1,A1 = (if ax = (1 : Int).toNat then ay else (ay : Option Addr).map (·.add ((1 : Int).toNat * 3))) := ⟨_,rfl⟩;obtain ⟨di,bK⟩ : ∃ c1,c1 = ax - (1 : Int).toNat := ⟨_,rfl⟩;have bv : a7.length = ad.length - (1 : Int).toNat := (by rw [bP.out,List.length_drop] <;> omega);rw [show (ad).drop (1 : Int).toNat = a7 from bP.out.symm] at bu;replace bu : Kd.F k36 _ _ dh a7.length a7 := (by rw [bJ];exact bu);rw [← bv,← bJ,← bK] at bZ;have bX := aK (show Kd.V k36 36 _ w.heap.size _ (.slice dh a7.length di) a7 from Kd.V_mk (by rw [bv,bK];exact Nat.sub_le_sub_right a0 _) bu);have dj := aK (show a7.length ≤ di from by rw [bv,bK];exact Nat.sub_le_sub_right a0 _);clear bu ch a0 bV bW bK;have dI := aK bv;have dJ := aK bJ;clear bv bJ;replace cF := eq_true cF;obtain ⟨aX,aY,cG⟩ := Kd.N_slice ak.out;subst cG)|(go_at_call 25;(with_reducible refine (r43_Same.calls k _ _ aN _ _ a7 true _ ?ah ?al ?a2 ?bi dv.out).mono ?_);(case ah => exact cM (Kd.N_reads' ak.out).2.2);(case al => exact (Kd.N_reads' ak.out).2.1);(case a2 => exact cM (Kd.V_reads' bX.out).2.2);(case bi => exact (Kd.V_reads' bX.out).2.1);rintro e dK ⟨rfl,hb⟩;replace aa := aK (Kd.N_below (nM aa.out) hb);replace ab := aK (Kd.R_below (rM ab.out) hb);replace ac := aK (Kd.R_below (rM ac.out) hb);replace ae := aK (Kd.R_below (rM ae.out) hb);replace af := aK (Kd.R_below (rM af.out) hb);replace ag := aK (Kd.R_below (rM ag.out) hb);replace ai := aK (Kd.N_below (nM ai.out) hb);replace aj := aK (Kd.N_below (nM aj.out) hb);replace ak := aK (Kd.N_below (nM ak.out) hb);replace am := aK (Kd.N_below (nM am.out) hb);replace HB := aK (below_step (bM HB.out) hb);(try clear hb);(try clear hk))|((with_reducible refine gate_dst (N := 86) rfl ?_);(try (refine gate_guard (by rfl) ?_;dsimp only));refine Kd.N_lit k36 _ 36 ?hg (N' := 86) ?hd (xs := ([(⟨(⟨#[120,47,121]⟩ : ByteArray),([] : List Int),([] : List ByteArray)⟩ : S36)] : List (S36))) (inner := [.string (⟨#[120,47,121]⟩ : ByteArray),.slice none 0 0,.slice none 0 0]) (ok := (fun k_ => some k_ ≠ (.slice ay ad.length ax : Value).ownBlock ∧ some k_ ≠ (.slice aC aq.length aD : Value).ownBlock ∧ some k_ ≠ (.slice aE au.length aF : Value).ownBlock ∧ some k_ ≠ (.slice aG ap.length aH : Value).ownBlock ∧ some k_ ≠ (.slice aI aw.length aJ : Value).ownBlock ∧ some k_ ≠ (.slice az ar.length aA : Value).ownBlock ∧ some k_ ≠ (aM : Value).ownBlock ∧ some k_ ≠ (aQ : Value).ownBlock ∧ some k_ ≠ (.slice aX aN.length aY : Value).ownBlock ∧ some k_ ≠ (aW : Value).ownBlock)) (okp := (fun k_ => some k_ ≠ (.slice ay ad.length ax : Value).ownBlock ∧ some k_ ≠ (.slice aC aq.length aD : Value).ownBlock ∧ some k_ ≠ (.slice aE au.length aF : Value).ownBlock ∧ some k_ ≠ (.slice aG ap.length aH : Value).ownBlock ∧ some k_ ≠ (.slice aI aw.length aJ : Value).ownBlock ∧ some k_ ≠ (.slice az ar.length aA : Value).ownBlock ∧ some k_ ≠ (aM : Value).ownBlock ∧ some k_ ≠ (aQ : Value).ownBlock ∧ some k_ ≠ (.slice aX aN.length aY : Value).ownBlock ∧ some k_ ≠ (aW : Value).ownBlock)) ?hr ?hp (fun _ hk => hk) ((show ∀ k_,dK.heap.size ≤ k_ → (fun k_ => some k_ ≠ (.slice ay ad.length ax : Value).ownBlock ∧ some k_ ≠ (.slice aC aq.length aD : Value).ownBlock ∧ some k_ ≠ (.slice aE au.length aF : Value).ownBlock ∧ some k_ ≠ (.slice aG ap.length aH : Value).ownBlock ∧ some k_ ≠ (.slice aI aw.length aJ : Value).ownBlock ∧ some k_ ≠ (.slice az ar.length aA : Value).ownBlock ∧ some k_ ≠ (aM : Value).ownBlock ∧ some k_ ≠ (aQ : Value).ownBlock ∧ some k_ ≠ (.slice aX aN.length aY : Value).ownBlock ∧ some k_ ≠ (aW : Value).ownBlock) k_ from fun k_ hk => ⟨Kd.fresh' (Kd.N_lt (nM aa.out)) k_ hk,Kd.fresh' (Kd.R_lt (rM ab.out)) k_ hk,Kd.fresh' (Kd.R_lt (rM ac.out)) k_ hk,Kd.fresh' (Kd.R_lt (rM ae.out)) k_ hk,Kd.fresh' (Kd.R_lt (rM af.out)) k_ hk,Kd.fresh' (Kd.R_lt (rM ag.out)) k_ hk,Kd.fresh' (Kd.N_lt (nM ai.out)) k_ hk,Kd.fresh' (Kd.N_lt (nM aj.out)) k_ hk,Kd.fresh' (Kd.N_lt (nM ak.out)) k_ hk,Kd.fresh' (Kd.N_lt (nM am.out)) k_ hk⟩) _ (Nat.le_refl _)) (Below.refl _ _) (Nat.le_refl _) (by simp) ?_;(case hd => rfl);(case hg => rfl);(case hr => first|(go_simp;done)|(go_simp;rfl));(case hp => exact (Reps.c3 (show Kd.FK k36 _ _ (⟨(⟨#[120,47,121]⟩ : ByteArray),([] : List Int),([] : List ByteArray)⟩ : S36) [.string (⟨#[120,47,121]⟩ : ByteArray),.slice none 0 0,.slice none 0 0] from (k36_mkF _ _ (⟨(⟨#[120,47,121]⟩ : ByteArray),([] : List Int),([] : List ByteArray)⟩ : S36) (Nat.le_refl _) (Kd.F_nil _ _ _) (Nat.le_refl _) (Kd.F_nil _ _ _))) (Reps.none _ _)));intro dL d8 a6 hb hg_ hnew_;clear hg_ hnew_;(first|rw [← bQ.out] at a6|(simp only [Int.reduceToNat] at a6;rw [← bQ.out] at a6));replace aa := aK (Kd.N_elder' (nM aa.out) (Kd.N_base a6) hb);replace ab := aK (Kd.R_below (rM ab.out) hb);replace ac := aK (Kd.R_below (rM ac.out) hb);replace ae := aK (Kd.R_below (rM ae.out) hb);replace af := aK (Kd.R_below (rM af.out) hb);replace ag := aK (Kd.R_below (rM ag.out) hb);replace ai := aK (Kd.N_elder' (nM ai.out) (Kd.N_base a6) hb);replace aj := aK (Kd.N_elder' (nM aj.out) (Kd.N_base a6) hb);replace ak := aK (Kd.N_elder' (nM ak.out) (Kd.N_base a6) hb);replace am := aK (Kd.N_elder' (nM am.out) (Kd.N_base a6) hb);have an := aK (Kd.N_lower a6 (below_size (bM HB.out)));replace HB := aK (below_step (bM HB.out) hb);clear hb a6;obtain ⟨a3,a4,cH⟩ := Kd.N_slice an.out;subst cH)|((with_reducible refine gate_callee (f := 11) rfl ?_);refine gL 87 Tryz.func11 #[.slice a3 aV.length a4] ?_;(with_reducible refine (group_Right.calls k _ _ aV aL _ ?ah ?al dx.out).mono ?_);(case ah => exact cM (Kd.N_reads' an.out).2.2);(case al => exact (Kd.N_reads' an.out).2.1);rintro e d9 ⟨rfl,hb⟩;refine ⟨_,rfl,?_⟩;replace aa := aK (Kd.N_below (nM aa.out) hb);replace ab := aK (Kd.R_below (rM ab.out) hb);replace ac := aK (Kd.R_below (rM ac.out) hb);replace ae := aK (Kd.R_below (rM ae.out) hb);replace af := aK (Kd.R_below (rM af.out) hb);replace ag := aK (Kd.R_below (rM ag.out) hb);replace ai := aK (Kd.N_below (nM ai.out) hb);replace aj := aK (Kd.N_below (nM aj.out) hb);replace ak := aK (Kd.N_below (nM ak.out) hb);replace am := aK (Kd.N_below (nM am.out) hb);replace an := aK (Kd.N_below (nM an.out) hb);replace HB := aK (below_step (bM HB.out) hb);(try clear hb);(try clear hk))|((with_reducible refine gate_dst (N := 90) rfl ?_);(try (refine gate_guard (by rfl) ?_;dsimp only));refine Kd.R_lit (Kd.int .i64) _ 3 ?hg (N := 90) ?hd (xs := ([0] : List Int)) (inner := [.int .i64 0]) (ok := fun _ => True) (okp := fun _ => True) ?hr ?hp (fun _ hk => hk) trivial (Below.refl _ _) (Nat.le_refl _) (by simp) ?_;(case hd => rfl);(case hg => rfl);(case hr => first|(go_simp;done)|(go_simp;rfl));(case hp => exact (Reps.one (show Kd.M (Kd.int .i64) _ _ _ 0 [.int .i64 0] from rfl) (Reps.none _ _)));intro dM dN aZ hb hg_ hnew_;clear hg_ hnew_;(first|rw [← bR.out] at aZ|(simp only [Int.reduceToNat] at aZ;rw [← bR.out] at aZ));replace aa := aK (Kd.N_elder' (nM aa.out) (Kd.R_base aZ) hb);replace ae := aK (Kd.R_below (rM ae.out) hb);replace af := aK (Kd.R_below (rM af.out) hb);replace ag := aK (Kd.R_below (rM ag.out) hb);replace ai := aK (Kd.N_elder' (nM ai.out) (Kd.R_base aZ) hb);replace aj := aK (Kd.N_elder' (nM aj.out) (Kd.R_base aZ) hb);replace ak := aK (Kd.N_elder' (nM ak.out) (Kd.R_base aZ) hb);replace am := aK (Kd.N_elder' (nM am.out) (Kd.R_base aZ) hb);replace an := aK (Kd.N_elder' (nM an.out) (Kd.R_base aZ) hb);have bx := aK (Kd.R_lower (Kd.R_new' (Kd.R_new' aZ (Kd.R_lt (rM ab.out))) (Kd.R_lt (rM ac.out))) (below_size (bM HB.out)));replace ab := aK (Kd.R_elder' (rM ab.out) (Kd.R_base aZ) hb);replace ac := aK (Kd.R_elder' (rM ac.out) (Kd.R_base aZ) hb);replace HB := aK (below_step (bM HB.out) hb);clear hb aZ;obtain ⟨ci,cj,cI⟩ := Kd.R_slice bx.out;subst cI)|((with_reducible refine gate_dst (N := 92) rfl ?_);(try (refine gate_guard (by rfl) ?_;dsimp only));refine Kd.N_lit k36 _ 36 ?hg (N' := 92) ?hd (xs := ([(⟨(⟨#[120]⟩ : ByteArray),bk,([] : List ByteArray)⟩ : S36)] : List (S36))) (inner := [.string (⟨#[120]⟩ : ByteArray),.slice ci bk.length cj,.slice none 0 0]) (ok := (fun k_ => some k_ ≠ (.slice ay ad.length ax : Value).ownBlock ∧ some k_ ≠ (.slice aC aq.length aD : Value).ownBlock ∧ some k_ ≠ (.slice aE au.length aF : Value).ownBlock ∧ some k_ ≠ (.slice aG ap.length aH : Value).ownBlock ∧ some k_ ≠ (.slice aI aw.length aJ : Value).ownBlock ∧ some k_ ≠ (.slice az ar.length aA : Value).ownBlock ∧ some k_ ≠ (aM : Value).ownBlock ∧ some k_ ≠ (aQ : Value).ownBlock ∧ some k_ ≠ (.slice aX aN.length aY : Value).ownBlock ∧ some k_ ≠ (aW : Value).ownBlock ∧ some k_ ≠ (.slice a3 aV.length a4 : Value).ownBlock)) (okp := (fun k_ => some k_ ≠ (.slice ay ad.length ax : Value).ownBlock ∧ some k_ ≠ (.slice aC aq.length aD : Value).ownBlock ∧ some k_ ≠ (.slice aE au.length aF : Value).ownBlock ∧ some k_ ≠ (.slice aG ap.length aH : Value).ownBlock ∧ some k_ ≠ (.slice aI aw.length aJ : Value).ownBlock ∧ some k_ ≠ (.slice az ar.length aA : Value).ownBlock ∧ some k_ ≠ (aM : Value).ownBlock ∧ some k_ ≠ (aQ : Value).ownBlock ∧ some k_ ≠ (.slice aX aN.length aY : Value).ownBlock ∧ some k_ ≠ (aW : Value).ownBlock ∧ some k_ ≠ (.slice a3 aV.length a4 : Value).ownBlock)) ?hr ?hp (fun _ hk => hk) ((show ∀ k_,dN.heap.size ≤ k_ → (fun k_ => some k_ ≠ (.slice ay ad.length ax : Value).ownBlock ∧ some k_ ≠ (.slice aC aq.length aD : Value).ownBlock ∧ some k_ ≠ (.slice aE au.length aF : Value).ownBlock ∧ some k_ ≠ (.slice aG ap.length aH : Value).ownBlock ∧ some k_ ≠ (.slice aI aw.length aJ : Value).ownBlock ∧ some k_ ≠ (.slice az ar.length aA : Value).ownBlock ∧ some k_ ≠ (aM : Value).ownBlock ∧ some k_ ≠ (aQ : Value).ownBlock ∧ some k_ ≠ (.slice aX aN.length aY : Value).ownBlock ∧ some k_ ≠ (aW : Value).ownBlock ∧ some k_ ≠ (.slice a3 aV.length a4 : Value).ownBlock) k_ from fun k_ hk => ⟨Kd.fresh' (Kd.N_lt (nM aa.out)) k_ hk,Kd.fresh' (Kd.R_lt (rM ab.out)) k_ hk,Kd.fresh' (Kd.R_lt (rM ac.out)) k_ hk,Kd.fresh' (Kd.R_lt (rM ae.out)) k_ hk,Kd.fresh' (Kd.R_lt (rM af.out)) k_ hk,Kd.fresh' (Kd.R_lt (rM ag.out)) k_ hk,Kd.fresh' (Kd.N_lt (nM ai.out)) k_ hk,Kd.fresh' (Kd.N_lt (nM aj.out)) k_ hk,Kd.fresh' (Kd.N_lt (nM ak.out)) k_ hk,Kd.fresh' (Kd.N_lt (nM am.out)) k_ hk,Kd.fresh' (Kd.N_lt (nM an.out)) k_ hk⟩) _ (Nat.le_refl _)) (Below.refl _ _) (Nat.le_refl _) (by simp) ?_;(case hd => rfl);(case hg => rfl);(case hr => first|(go_simp;done)|(go_simp;rfl));(case hp => exact (Reps.c3 (show Kd.FK k36 _ _ (⟨(⟨#[120]⟩ : ByteArray),bk,([] : List ByteArray)⟩ : S36) [.string (⟨#[120]⟩ : ByteArray),.slice ci bk.length cj,.slice none 0 0] from (k36_mkF _ _ (⟨(⟨#[120]⟩ : ByteArray),bk,([] : List ByteArray)⟩ : S36) (Kd.R_reads' (Kd.R_mono (ok' := (fun k_ => some k_ ≠ (.slice ay ad.length ax : Value).ownBlock ∧ some k_ ≠ (.slice aC aq.length aD : Value).ownBlock ∧ some k_ ≠ (.slice aE au.length aF : Value).ownBlock ∧ some k_ ≠ (.slice aG ap.length aH : Value).ownBlock ∧ some k_ ≠ (.slice aI aw.length aJ : Value).ownBlock ∧ some k_ ≠ (.slice az ar.length aA : Value).ownBlock ∧ some k_ ≠ (aM : Value).ownBlock ∧ some k_ ≠ (aQ : Value).ownBlock ∧ some k_ ≠ (.slice aX aN.length aY : Value).ownBlock ∧ some k_ ≠ (aW : Value).ownBlock ∧ some k_ ≠ (.slice a3 aV.length a4 : Value).ownBlock)) (Kd.R_apart' (Kd.R_apart' (Kd.R_apart' (Kd.R_apart' (Kd.R_apart' (Kd.R_apart' (Kd.R_apart' (Kd.R_apart' (Kd.R_apart' (bx.out) (Kd.N_typed aa.out) (by decide)) (Kd.R_typed ae.out) (by decide)) (Kd.R_typed af.out) (by decide)) (Kd.R_typed ag.out) (by decide)) (Kd.N_typed ai.out) (by decide)) (Kd.N_typed aj.out) (by decide)) (Kd.N_typed ak.out) (by decide)) (Kd.N_typed am.out) (by decide)) (Kd.N_typed an.out) (by decide)) (fun k_ hk => ⟨hk.1.1.1.1.1.1.1.1.2,⟨hk.1.1.1.1.1.1.1.1.1.1.2,⟨hk.1.1.1.1.1.1.1.1.1.2,⟨hk.1.1.1.1.1.1.1.2,⟨hk.1.1.1.1.1.1.2,⟨hk.1.1.1.1.1.2,⟨hk.1.1.1.1.2,⟨hk.1.1.1.2,⟨hk.1.1.2,⟨hk.1.2,hk.2⟩⟩⟩⟩⟩⟩⟩⟩⟩⟩))).2.1 (Kd.R_F (Kd.R_mono (ok' := (fun k_ => some k_ ≠ (.slice ay ad.length ax : Value).ownBlock ∧ some k_ ≠ (.slice aC aq.length aD : Value).ownBlock ∧ some k_ ≠ (.slice aE au.length aF : Value).ownBlock ∧ some k_ ≠ (.slice aG ap.length aH : Value).ownBlock ∧ some k_ ≠ (.slice aI aw.length aJ : Value).ownBlock ∧ some k_ ≠ (.slice az ar.length aA : Value).ownBlock ∧ some k_ ≠ (aM : Value).ownBlock ∧ some k_ ≠ (aQ : Value).ownBlock ∧ some k_ ≠ (.slice aX aN.length aY : Value).ownBlock ∧ some k_ ≠ (aW : Value).ownBlock ∧ some k_ ≠ (.slice a3 aV.length a4 : Value).ownBlock)) (Kd.R_apart' (Kd.R_apart' (Kd.R_apart' (Kd.R_apart' (Kd.R_apart' (Kd.R_apart' (Kd.R_apart' (Kd.R_apart' (Kd.R_apart' (bx.out) (Kd.N_typed aa.out) (by decide)) (Kd.R_typed ae.out) (by decide)) (Kd.R_typed af.out) (by decide)) (Kd.R_typed ag.out) (by decide)) (Kd.N_typed ai.out) (by decide)) (Kd.N_typed aj.out) (by decide)) (Kd.N_typed ak.out) (by decide)) (Kd.N_typed am.out) (by decide)) (Kd.N_typed an.out) (by decide)) (fun k_ hk => ⟨hk.1.1.1.1.1.1.1.1.2,⟨hk.1.1.1.1.1.1.1.1.1.1.2,⟨hk.1.1.1.1.1.1.1.1.1.2,⟨hk.1.1.1.1.1.1.1.2,⟨hk.1.1.1.1.1.1.2,⟨hk.1.1.1.1.1.2,⟨hk.1.1.1.1.2,⟨hk.1.1.1.2,⟨hk.1.1.2,⟨hk.1.2,hk.2⟩⟩⟩⟩⟩⟩⟩⟩⟩⟩))) (Nat.le_refl _) (Kd.F_nil _ _ _))) (Reps.none _ _)));intro dO ea a5 hb hg_ hnew_;clear hg_ hnew_;(first|rw [← bS.out] at a5|(simp only [Int.reduceToNat] at a5;rw [← bS.out] at a5));replace aa := aK (Kd.N_elder' (nM aa.out) (Kd.N_base a5) hb);replace ab := aK (Kd.R_below (rM ab.out) hb);replace ac := aK (Kd.R_below (rM ac.out) hb);replace ae := aK (Kd.R_below (rM ae.out) hb);replace af := aK (Kd.R_below (rM af.out) hb);replace ag := aK (Kd.R_below (rM ag.out) hb);replace ai := aK (Kd.N_elder' (nM ai.out) (Kd.N_base a5) hb);replace aj := aK (Kd.N_elder' (nM aj.out) (Kd.N_base a5) hb);replace ak := aK (Kd.N_elder' (nM ak.out) (Kd.N_base a5) hb);replace am := aK (Kd.N_elder' (nM am.out) (Kd.N_base a5) hb);replace an := aK (Kd.N_elder' (nM an.out) (Kd.N_base a5) hb);have aT := aK (Kd.N_lower a5 (below_size (bM HB.out)));replace HB := aK (below_step (bM HB.out) hb);clear hb a5;obtain ⟨bz,bB,cJ⟩ := Kd.N_slice aT.out;subst cJ)|(go_at_call 11;(with_reducible refine (group_Right.calls k _ _ bm av _ ?ah ?al dy.out).mono ?_);(case ah => exact cM (Kd.N_reads' aT.out).2.2);(case al => exact (Kd.N_reads' aT.out).2.1);rintro e eb ⟨rfl,hb⟩;replace aa := aK (Kd.N_below (nM aa.out) hb);replace ab := aK (Kd.R_below (rM ab.out) hb);replace ac := aK (Kd.R_below (rM ac.out) hb);replace ae := aK (Kd.R_below (rM ae.out) hb);replace af := aK (Kd.R_below (rM af.out) hb);replace ag := aK (Kd.R_below (rM ag.out) hb);replace ai := aK (Kd.N_below (nM ai.out) hb);replace aj := aK (Kd.N_below (nM aj.out) hb);replace ak := aK (Kd.N_below (nM ak.out) hb);replace am := aK (Kd.N_below (nM am.out) hb);replace an := aK (Kd.N_below (nM an.out) hb);replace aT := aK (Kd.N_below (nM aT.out) hb);replace HB := aK (below_step (bM HB.out) hb);(try clear hb);(try clear hk))|((with_reducible refine gate_dst (N := 97) rfl ?_);(try (refine gate_guard (by rfl) ?_;dsimp only));refine Kd.R_lit (Kd.int .i64) _ 3 ?hg (N := 97) ?hd (xs := ([1,1] : List Int)) (inner := [.int .i64 1,.int .i64 1]) (ok := fun _ => True) (okp := fun _ => True) ?hr ?hp (fun _ hk => hk) trivial (Below.refl _ _) (Nat.le_refl _) (by simp) ?_;(case hd => rfl);(case hg => rfl);(case hr => first|(go_simp;done)|(go_simp;rfl));(case hp => exact (Reps.one (show Kd.M (Kd.int .i64) _ _ _ 1 [.int .i64 1] from rfl) (Reps.one (show Kd.M (Kd.int .i64) _ _ _ 1 [.int .i64 1] from rfl) (Reps.none _ _))));intro dP dQ aU hb hg_ hnew_;clear hg_ hnew_;(first|rw [← bT.out] at aU|(simp only [Int.reduceToNat] at aU;rw [← bT.out] at aU));replace aa := aK (Kd.N_elder' (nM aa.out) (Kd.R_base aU) hb);replace ae := aK (Kd.R_below (rM ae.out) hb);replace af := aK (Kd.R_below (rM af.out) hb);replace ag := aK (Kd.R_below (rM ag.out) hb);replace ai := aK (Kd.N_elder' (nM ai.out) (Kd.R_base aU) hb);replace aj := aK (Kd.N_elder' (nM aj.out) (Kd.R_base aU) hb);replace ak := aK (Kd.N_elder' (nM ak.out) (Kd.R_base aU) hb);replace am := aK (Kd.N_elder' (nM am.out) (Kd.R_base aU) hb);replace an := aK (Kd.N_elder' (nM an.out) (Kd.R_base aU) hb);replace aT := aK (Kd.N_elder' (nM aT.out) (Kd.R_base aU) hb);have bC := aK (Kd.R_lower (Kd.R_new' (Kd.R_new' aU (Kd.R_lt (rM ab.out))) (Kd.R_lt (rM ac.out))) (below_size (bM HB.out)));replace ab := aK (Kd.R_elder' (rM ab.out) (Kd.R_base aU) hb);replace ac := aK (Kd.R_elder' (rM ac.out) (Kd.R_base aU) hb);replace HB := aK (below_step (bM HB.out) hb);clear hb aU;obtain ⟨ck,cl,cK⟩ := Kd.R_slice bC.out;subst cK)|((with_reducible refine gate_dst (N := 99) rfl ?_);(try (refine gate_guard (by rfl) ?_;dsimp only));refine Kd.N_lit k36 _ 36 ?hg (N' := 99) ?hd (xs := ([(⟨(⟨#[120]⟩ : ByteArray),bn,([] : List ByteArray)⟩ : S36)] : List (S36))) (inner := [.string (⟨#[120]⟩ : ByteArray),.slice ck bn.length cl,.slice none 0 0]) (ok := (fun k_ => some k_ ≠ (.slice ay ad.length ax : Value).ownBlock ∧ some k_ ≠ (.slice aC aq.length aD : Value).ownBlock ∧ some k_ ≠ (.slice aE au.length aF : Value).ownBlock ∧ some k_ ≠ (.slice aG ap.length aH : Value).ownBlock ∧ some k_ ≠ (.slice aI aw.length aJ : Value).ownBlock ∧ some k_ ≠ (.slice az ar.length aA : Value).ownBlock ∧ some k_ ≠ (aM : Value).ownBlock ∧ some k_ ≠ (aQ : Value).ownBlock ∧ some k_ ≠ (.slice aX aN.length aY : Value).ownBlock ∧ some k_ ≠ (aW : Value).ownBlock ∧ some k_ ≠ (.slice a3 aV.length a4 : Value).ownBlock ∧ some k_ ≠ (.slice bz bm.length bB : Value).ownBlock)) (okp := (fun k_ => some k_ ≠ (.slice ay ad.length ax : Value).ownBlock ∧ some k_ ≠ (.slice aC aq.length aD : Value).ownBlock ∧ some k_ ≠ (.slice aE au.length aF : Value).ownBlock ∧ some k_ ≠ (.slice aG ap.length aH : Value).ownBlock ∧ some k_ ≠ (.slice aI aw.length aJ : Value).ownBlock ∧ some k_ ≠ (.slice az ar.length aA : Value).ownBlock ∧ some k_ ≠ (aM : Value).ownBlock ∧ some k_ ≠ (aQ : Value).ownBlock ∧ some k_ ≠ (.slice aX aN.length aY : Value).ownBlock ∧ some k_ ≠ (aW : Value).ownBlock ∧ some k_ ≠ (.slice a3 aV.length a4 : Value).ownBlock ∧ some k_ ≠ (.slice bz bm.length bB : Value).ownBlock)) ?hr ?hp (fun _ hk => hk) ((show ∀ k_,dQ.heap.size ≤ k_ → (fun k_ => some k_ ≠ (.slice ay ad.length ax : Value).ownBlock ∧ some k_ ≠ (.slice aC aq.length aD : Value).ownBlock ∧ some k_ ≠ (.slice aE au.length aF : Value).ownBlock ∧ some k_ ≠ (.slice aG ap.length aH : Value).ownBlock ∧ some k_ ≠ (.slice aI aw.length aJ : Value).ownBlock ∧ some k_ ≠ (.slice az ar.length aA : Value).ownBlock ∧ some k_ ≠ (aM : Value).ownBlock ∧ some k_ ≠ (aQ : Value).ownBlock ∧ some k_ ≠ (.slice aX aN.length aY : Value).ownBlock ∧ some k_ ≠ (aW : Value).ownBlock ∧ some k_ ≠ (.slice a3 aV.length a4 : Value).ownBlock ∧ some k_ ≠ (.slice bz bm.length bB : Value).ownBlock) k_ from fun k_ hk => ⟨Kd.fresh' (Kd.N_lt (nM aa.out)) k_ hk,Kd.fresh' (Kd.R_lt (rM ab.out)) k_ hk,Kd.fresh' (Kd.R_lt (rM ac.out)) k_ hk,Kd.fresh' (Kd.R_lt (rM ae.out)) k_ hk,Kd.fresh' (Kd.R_lt (rM af.out)) k_ hk,Kd.fresh' (Kd.R_lt (rM ag.out)) k_ hk,Kd.fresh' (Kd.N_lt (nM ai.out)) k_ hk,Kd.fresh' (Kd.N_lt (nM aj.out)) k_ hk,Kd.fresh' (Kd.N_lt (nM ak.out)) k_ hk,Kd.fresh' (Kd.N_lt (nM am.out)) k_ hk,Kd.fresh' (Kd.N_lt (nM an.out)) k_ hk,Kd.fresh' (Kd.N_lt (nM aT.out)) k_ hk⟩) _ (Nat.le_refl _)) (Below.refl _ _) (Nat.le_refl _) (by simp) ?_;(case hd => rfl);(case hg => rfl);(case hr => first|(go_simp;done)|(go_simp;rfl));(case hp => exact (Reps.c3 (show Kd.FK k36 _ _ (⟨(⟨#[120]⟩ : ByteArray),bn,([] : List ByteArray)⟩ : S36) [.string (⟨#[120]⟩ : ByteArray),.slice ck bn.length cl,.slice none 0 0] from (k36_mkF _ _ (⟨(⟨#[120]⟩ : ByteArray),bn,([] : List ByteArray)⟩ : S36) (Kd.R_reads' (Kd.R_mono (ok' := (fun k_ => some k_ ≠ (.slice ay ad.length ax : Value).ownBlock ∧ some k_ ≠ (.slice aC aq.length aD : Value).ownBlock ∧ some k_ ≠ (.slice aE au.length aF : Value).ownBlock ∧ some k_ ≠ (.slice aG ap.length aH : Value).ownBlock ∧ some k_ ≠ (.slice aI aw.length aJ : Value).ownBlock ∧ some k_ ≠ (.slice az ar.length aA : Value).ownBlock ∧ some k_ ≠ (aM : Value).ownBlock ∧ some k_ ≠ (aQ : Value).ownBlock ∧ some k_ ≠ (.slice aX aN.length aY : Value).ownBlock ∧ some k_ ≠ (aW : Value).ownBlock ∧ some k_ ≠ (.slice a3 aV.length a4 : Value).ownBlock ∧ some k_ ≠ (.slice bz bm.length bB : Value).ownBlock)) (Kd.R_apart' (Kd.R_apart' (Kd.R_apart' (Kd.R_apart' (Kd.R_apart' (Kd.R_apart' (Kd.R_apart' (Kd.R_apart' (Kd.R_apart' (Kd.R_apart' (bC.out) (Kd.N_typed aa.out) (by decide)) (Kd.R_typed ae.out) (by decide)) (Kd.R_typed af.out) (by decide)) (Kd.R_typed ag.out) (by decide)) (Kd.N_typed ai.out) (by decide)) (Kd.N_typed aj.out) (by decide)) (Kd.N_typed ak.out) (by decide)) (Kd.N_typed am.out) (by decide)) (Kd.N_typed an.out) (by decide)) (Kd.N_typed aT.out) (by decide)) (fun k_ hk => ⟨hk.1.1.1.1.1.1.1.1.1.2,⟨hk.1.1.1.1.1.1.1.1.1.1.1.2,⟨hk.1.1.1.1.1.1.1.1.1.1.2,⟨hk.1.1.1.1.1.1.1.1.2,⟨hk.1.1.1.1.1.1.1.2,⟨hk.1.1.1.1.1.1.2,⟨hk.1.1.1.1.1.2,⟨hk.1.1.1.1.2,⟨hk.1.1.1.2,⟨hk.1.1.2,⟨hk.1.2,hk.2⟩⟩⟩⟩⟩⟩⟩⟩⟩⟩⟩))).2.1 (Kd.R_F (Kd.R_mono (ok' := (fun k_ => some k_ ≠ (.slice ay ad.length ax : Value).ownBlock ∧ some k_ ≠ (.slice aC aq.length aD : Value).ownBlock ∧ some k_ ≠ (.slice aE au.length aF : Value).ownBlock ∧ some k_ ≠ (.slice aG ap.length aH : Value).ownBlock ∧ some k_ ≠ (.slice aI aw.length aJ : Value).ownBlock ∧ some k_ ≠ (.slice az ar.length aA : Value).ownBlock ∧ some k_ ≠ (aM : Value).ownBlock ∧ some k_ ≠ (aQ : Value).ownBlock ∧ some k_ ≠ (.slice aX aN.length aY : Value).ownBlock ∧ some k_ ≠ (aW : Value).ownBlock ∧ some k_ ≠ (.slice a3 aV.length a4 : Value).ownBlock ∧ some k_ ≠ (.slice bz bm.length bB : Value).ownBlock)) (Kd.R_apart' (Kd.R_apart' (Kd.R_apart' (Kd.R_apart' (Kd.R_apart' (Kd.R_apart' (Kd.R_apart' (Kd.R_apart' (Kd.R_apart' (Kd.R_apart' (bC.out) (Kd.N_typed aa.out) (by decide)) (Kd.R_typed ae.out) (by decide)) (Kd.R_typed af.out) (by decide)) (Kd.R_typed ag.out) (by decide)) (Kd.N_typed ai.out) (by decide)) (Kd.N_typed aj.out) (by decide)) (Kd.N_typed ak.out) (by decide)) (Kd.N_typed am.out) (by decide)) (Kd.N_typed an.out) (by decide)) (Kd.N_typed aT.out) (by decide)) (fun k_ hk => ⟨hk.1.1.1.1.1.1.1.1.1.2,⟨hk.1.1.1.1.1.1.1.1.1.1.1.2,⟨hk.1.1.1.1.1.1.1.1.1.1.2,⟨hk.1.1.1.1.1.1.1.1.2,⟨hk.1.1.1.1.1.1.1.2,⟨hk.1.1.1.1.1.1.2,⟨hk.1.1.1.1.1.2,⟨hk.1.1.1.1.2,⟨hk.1.1.1.2,⟨hk.1.1.2,⟨hk.1.2,hk.2⟩⟩⟩⟩⟩⟩⟩⟩⟩⟩⟩))) (Nat.le_refl _) (Kd.F_nil _ _ _))) (Reps.none _ _)));intro dR ec bD hb hg_ hnew_;clear hg_ hnew_;(first|rw [← bU.out] at bD|(simp only [Int.reduceToNat] at bD;rw [← bU.out] at bD));have bE := aK (Kd.N_lower bD (below_size (bM HB.out)));replace HB := aK (below_step (bM HB.out) hb);clear hb bD;obtain ⟨dS,dT,cL⟩ := Kd.N_slice bE.out;subst cL)|(go_at_call 11;(with_reducible refine (group_Right.calls k _ _ ce ao _ ?ah ?al dz.out).mono ?_);(case ah => exact cM (Kd.N_reads' bE.out).2.2);(case al => exact (Kd.N_reads' bE.out).2.1);rintro e ed ⟨rfl,hb⟩;replace HB := aK (below_step (bM HB.out) hb);(try clear hb);(try clear hk)))
   go_ret
   exact ⟨by first|rfl|(simp [errW_none,errW_some] <;> rfl)|(simp [*,errW_none,errW_some] <;> rfl),bM HB.out⟩
 ·rw [if_neg c3] at H
  exact absurd H (by simp)

/-! ### l43_few: function 10 -/
mutual
def l43_few.l0 : Nat → List (S36) → Int → Option (Bool)
|0,_,_ => none
|k + 1,x0,x3 => if x3 < (x0.length : Int) then (if 0 ≤ x3 then (if (((rd_T36 x0 x3).f1).length : Int) > 20 then (l43_few.j1 k x0 x3 true) else (if (((rd_T36 x0 x3).f2).length : Int) > 20 then (l43_few.j1 k x0 x3 true) else (l43_few.j1 k x0 x3 (decide ((((rd_T36 x0 x3).f0).size : Int) > 100))))) else (none)) else (some true)
def l43_few.j1 : Nat → List (S36) → Int → Bool → Option (Bool)
|0,_,_,_ => none
|k + 1,x0,x3,aa => if aa = true then (some false) else (l43_few.l1 k x0 x3 0)
def l43_few.l1 : Nat → List (S36) → Int → Int → Option (Bool)
|0,_,_,_ => none
|k + 1,x0,x3,x4 => if 0 ≤ x3 then (if x3 < (x0.length : Int) then (if x4 < (((rd_T36 x0 x3).f2).length : Int) then (if 0 ≤ x4 then (if ((rdOf ByteArray.empty ((rd_T36 x0 x3).f2) x4).size : Int) > 100 then (some false) else (l43_few.l1 k x0 x3 (wrap64 (x4 + 1)))) else (none)) else (l43_few.l0 k x0 (wrap64 (x3 + 1)))) else (none)) else (none)
end
def l43_few.f (k : Nat) (l0 : List (S36)) : Option (Bool) := if (l0.length : Int) > 20 then (some false) else (l43_few.l0 k l0 0)
theorem l43_few.mono_l : ∀ k, (∀ y0 y1, LeO (l43_few.l0 k y0 y1) (l43_few.l0 (k + 1) y0 y1)) ∧ (∀ y0 y1 y2, LeO (l43_few.j1 k y0 y1 y2) (l43_few.j1 (k + 1) y0 y1 y2)) ∧ (∀ y0 y1 y2, LeO (l43_few.l1 k y0 y1 y2) (l43_few.l1 (k + 1) y0 y1 y2))
|0 => ⟨fun _ _ r h => by simp [l43_few.l0] at h,fun _ _ _ r h => by simp [l43_few.j1] at h,fun _ _ _ r h => by simp [l43_few.l1] at h⟩
|k + 1 => by
  obtain ⟨ih0,ih1,ih2⟩ := l43_few.mono_l k
  refine ⟨?_,?_,?_⟩
  ·intro y0 y1
   unfold l43_few.l0
   repeat' (with_reducible first|exact ih1 _ _ _|exact LeO.refl _|exact LeO.none _|refine LeO.ite ?_ ?_|refine LeO.bind ?_ (fun _ => ?_))
  ·intro y0 y1 y2
   unfold l43_few.j1
   repeat' (with_reducible first|exact ih2 _ _ _|exact LeO.refl _|exact LeO.none _|refine LeO.ite ?_ ?_|refine LeO.bind ?_ (fun _ => ?_))
  ·intro y0 y1 y2
   unfold l43_few.l1
   repeat' (with_reducible first|exact ih0 _ _|exact ih2 _ _ _|exact LeO.refl _|exact LeO.none _|refine LeO.ite ?_ ?_|refine LeO.bind ?_ (fun _ => ?_))
theorem l43_few.mono : ∀ a0 k, LeO (l43_few.f k a0) (l43_few.f (k + 1) a0) := by
 intro a0 k
 obtain ⟨ih0,ih1,ih2⟩ := l43_few.mono_l k
 unfold l43_few.f
 repeat' (with_reducible first|exact ih0 _ _|exact ih1 _ _ _|exact ih2 _ _ _|exact LeO.refl _|exact LeO.none _|refine LeO.ite ?_ ?_|refine LeO.bind ?_ (fun _ => ?_))
theorem l43_few.calls (k : Nat) (A0 : Option Addr) (c0 : Nat) (l0 : List (S36)) (r : Bool) (w : World) (ci : Kd.C k36 w A0 l0.length l0) (cj : l0.length ≤ c0) (h : l43_few.f k l0 = some r) :
  Calls Tryz.prog 10 #[.slice A0 l0.length c0] w fun e w' => e = .returned (.bool r) ∧ Drawn0 w w' := by
 have a9 := aK ci
 have cp := aK cj
 clear ci cj
 have H : (if (l0.length : Int) > 20 then (some false) else (l43_few.l0 k l0 0)) = some r := h
 clear h
 by_cases c2 : (l0.length : Int) > 20
 ·rw [if_pos c2] at H
  have bS := decide_eq_true c2
  have bT : decide (20 < l0.length) = true := decide_eq_true (by omega)
  clear c2
  obtain rfl := Option.some.inj H
  go_enter Tryz.func10,Tryz.ntmps10
  go_wp2
  go_ret
  exact ⟨by first|rfl|(simp;done)|(simp [*];done),by repeat (first|exact Drawn0.refl _|apply Drawn0.step)⟩
 ·rw [if_neg c2] at H
  have bS := decide_eq_false c2
  have bT : decide (20 < l0.length) = false := decide_eq_false (by omega)
  clear c2
  have H' := aK H
  clear H
  go_enter Tryz.func10,Tryz.ntmps10
  go_wp2
  go_loopg [3] k (fun kq v3 w' => ∃ (aa : Int),v3 = .int .i64 aa ∧ Aside0 (l43_few.l0 kq l0 aa = some r) ∧ Aside0 (kq ≤ k) ∧ Drawn0 w w')
  case atStart => exact ⟨(0),(by first|rfl|(simp;done)|(simp [*];done)),H',⟨Nat.le_refl _⟩,by repeat (first|exact Drawn0.refl _|apply Drawn0.step)⟩
  case round =>
   clear H'
   try clear c2
   try clear bS
   try clear bT
   try clear p2
   obtain ⟨aa,rfl,HA,bC,⟨m1,rfl⟩⟩ := hrel
   cases gk with
  |zero => exact absurd HA.out (by simp [l43_few.l0])
  |succ k1 =>
    have H := HA.out
    clear HA
    simp only [l43_few.l0] at H
    by_cases c3 : aa < (l0.length : Int)
    ·rw [if_pos c3] at H
     have bU := decide_eq_true c3
     clear c3
     have b8 := aK H
     clear H
     go_upto_region 6 with (fail)
     go_cut [38] (fun cn wc => ∃ (kq : Nat) (aT : Bool),cn = .bool aT ∧ Aside0 (l43_few.j1 kq l0 aa aT = some r) ∧ Aside0 (kq ≤ k1) ∧ Drawn0 w wc)
     case first =>
      have H := b8.out
      clear b8
      obtain ⟨c5,H⟩ := iS H
      have bV := decide_eq_true c5
      clear c5
      (first|rw [bV]|(simp only [i64_w,i32_w];rw [bV])|rw [c5b1]|skip)
      by_cases c6 : (((rd_T36 l0 aa).f1).length : Int) > 20
      ·rw [if_pos c6] at H
       have b9 := decide_eq_true c6
       have ca : decide (20 < ((rd_T36 l0 aa).f1).length) = true := decide_eq_true (by omega)
       clear c6
       have H' := aK H
       clear H
       have ay : 0 ≤ (aa : Int) := dA
       have az : aa < (l0.length : Int) := dA
       obtain ⟨aO,ba,bb,bc,bd,be,aA,aj,ak,ab,ac,ad,ae⟩ := at_T36 a9.out aa ay az
       cases be
       have aU := aK ac
       have aV := aK ab
       clear ac ab
       have aW := aK ae
       have aX := aK ad
       clear ae ad
       replace ay := eq_true ay
       replace az := eq_true az
       go_wp2
       go_meet
       case rel => exact ⟨_,(true),(by first|rfl|(simp;done)|(simp [*];done)),H',⟨by have := bC.out;first|omega|exact Nat.le_refl _⟩,by repeat (first|exact Drawn0.refl _|apply Drawn0.step)⟩
      ·rw [if_neg c6] at H
       have b9 := decide_eq_false c6
       have ca : decide (20 < ((rd_T36 l0 aa).f1).length) = false := decide_eq_false (by omega)
       clear c6
       by_cases c7 : (((rd_T36 l0 aa).f2).length : Int) > 20
       ·rw [if_pos c7] at H
        have cb := decide_eq_true c7
        have cc : decide (20 < ((rd_T36 l0 aa).f2).length) = true := decide_eq_true (by omega)
        clear c7
        have H' := aK H
        clear H
        have ay : 0 ≤ (aa : Int) := dA
        have az : aa < (l0.length : Int) := dA
        obtain ⟨aO,ba,bb,bc,bd,be,aA,aj,ak,ab,ac,ad,ae⟩ := at_T36 a9.out aa ay az
        cases be
        have aU := aK ac
        have aV := aK ab
        clear ac ab
        have aW := aK ae
        have aX := aK ad
        clear ae ad
        replace ay := eq_true ay
        replace az := eq_true az
        have aF : 0 ≤ (aa : Int) := dA
        have aG : aa < (l0.length : Int) := dA
        obtain ⟨bf,bD,bE,bF,bH,bI,aH,al,am,an,ao,ap,aq⟩ := at_T36 a9.out aa aF aG
        obtain rfl : aO = bf := (by injection bI)
        have bp := aK ao
        have bq := aK an
        clear ao an
        have br := aK aq
        have bs := aK ap
        clear aq ap
        replace aF := eq_true aF
        replace aG := eq_true aG
        have ea_ := Option.some.inj (aj.symm.trans al)
        injection ea_ with ea_ en_ ec_
        subst ea_
        subst ec_
        clear en_
        have ea_ := Option.some.inj (ak.symm.trans am)
        injection ea_ with ea_ en_ ec_
        subst ea_
        subst ec_
        clear en_
        go_wp2
        go_meet
        case rel => exact ⟨_,(true),(by first|rfl|(simp;done)|(simp [*];done)),H',⟨by have := bC.out;first|omega|exact Nat.le_refl _⟩,by repeat (first|exact Drawn0.refl _|apply Drawn0.step)⟩
       ·rw [if_neg c7] at H
        have cb := decide_eq_false c7
        have cc : decide (20 < ((rd_T36 l0 aa).f2).length) = false := decide_eq_false (by omega)
        clear c7
        have H' := aK H
        clear H
        have ay : 0 ≤ (aa : Int) := dA
        have az : aa < (l0.length : Int) := dA
        obtain ⟨aO,ba,bb,bc,bd,be,aA,aj,ak,ab,ac,ad,ae⟩ := at_T36 a9.out aa ay az
        cases be
        have aU := aK ac
        have aV := aK ab
        clear ac ab
        have aW := aK ae
        have aX := aK ad
        clear ae ad
        replace ay := eq_true ay
        replace az := eq_true az
        have aF : 0 ≤ (aa : Int) := dA
        have aG : aa < (l0.length : Int) := dA
        obtain ⟨bf,bD,bE,bF,bH,bI,aH,al,am,an,ao,ap,aq⟩ := at_T36 a9.out aa aF aG
        obtain rfl : aO = bf := (by injection bI)
        have bp := aK ao
        have bq := aK an
        clear ao an
        have br := aK aq
        have bs := aK ap
        clear aq ap
        replace aF := eq_true aF
        replace aG := eq_true aG
        have ea_ := Option.some.inj (aj.symm.trans al)
        injection ea_ with ea_ en_ ec_
        subst ea_
        subst ec_
        clear en_
        have ea_ := Option.some.inj (ak.symm.trans am)
        injection ea_ with ea_ en_ ec_
        subst ea_
        subst ec_
        clear en_
        have bg : 0 ≤ (aa : Int) := dA
        have bh : aa < (l0.length : Int) := dA
        obtain ⟨bW,cd,ce,cf,cg,ch,aY,aI,aJ,aZ,a0,a1,a2⟩ := at_T36 a9.out aa bg bh
        obtain rfl : aO = bW := (by injection ch)
        have b2 := aK a0
        have b3 := aK aZ
        clear a0 aZ
        have b4 := aK a2
        have b5 := aK a1
        clear a2 a1
        replace bg := eq_true bg
        replace bh := eq_true bh
        have ea_ := Option.some.inj (aj.symm.trans aI)
        injection ea_ with ea_ en_ ec_
        subst ea_
        subst ec_
        clear en_
        have ea_ := Option.some.inj (ak.symm.trans aJ)
        injection ea_ with ea_ en_ ec_
        subst ea_
        subst ec_
        clear en_
        go_wp2
        go_meet
        case rel => exact ⟨_,(decide ((((rd_T36 l0 aa).f0).size : Int) > 100)),(by first|rfl|(simp;done)|(simp [*];done)),H',⟨by have := bC.out;first|omega|exact Nat.le_refl _⟩,by repeat (first|exact Drawn0.refl _|apply Drawn0.step)⟩
     case rest =>
      clear b8
      try clear p2
      try clear c3
      try clear bU
      try clear p3
      try clear q3
      try clear hx3
      try clear aA
      try clear aj
      try clear ak
      try clear aH
      try clear al
      try clear am
      try clear aY
      try clear aI
      try clear aJ
      try clear p2
      try clear ay
      try clear aF
      try clear bg
      try clear az
      try clear aG
      try clear bh
      obtain ⟨kq,aT,rfl,HA,b6,⟨cq,rfl⟩⟩ := hcut
      cases kq with
     |zero => exact absurd HA.out (by simp [l43_few.j1])
     |succ kj3 =>
       have H := HA.out
       clear HA
       simp only [l43_few.j1] at H
       by_cases c8 : aT = true
       ·subst c8
        rw [if_pos rfl] at H
        obtain rfl := Option.some.inj H
        go_wp2
        go_ret
        exact ⟨by first|rfl|(simp;done)|(simp [*];done),by repeat (first|exact Drawn0.refl _|apply Drawn0.step)⟩
       ·replace c8 := Bool.eq_false_iff.mpr c8
        subst c8
        rw [if_neg (show ¬ (false = true) by decide)] at H
        have H' := aK H
        clear H
        go_wp2
        go_loopg [4] kj3 (fun kq v4 w' => ∃ (ar : Int),v4 = .int .i64 ar ∧ Aside0 (l43_few.l1 kq l0 aa ar = some r) ∧ Aside0 (kq ≤ kj3) ∧ Drawn0 w w')
        case atStart => exact ⟨(0),(by first|rfl|(simp;done)|(simp [*];done)),H',⟨Nat.le_refl _⟩,by repeat (first|exact Drawn0.refl _|apply Drawn0.step)⟩
        case round =>
         clear H'
         try clear p2
         try clear p3
         try clear q3
         try clear hx3
         try clear c8
         try clear aA
         try clear aj
         try clear ak
         try clear aH
         try clear al
         try clear am
         try clear aY
         try clear aI
         try clear aJ
         try clear p2
         try clear p3
         try clear ay
         try clear aF
         try clear bg
         try clear q3
         try clear az
         try clear aG
         try clear bh
         obtain ⟨ar,rfl,HA,b7,⟨m3,rfl⟩⟩ := hrel
         cases gk with
        |zero => exact absurd HA.out (by simp [l43_few.l1])
        |succ k3 =>
          have H := HA.out
          clear HA
          simp only [l43_few.l1] at H
          obtain ⟨c9,H⟩ := iS H
          have co := decide_eq_true c9
          clear c9
          obtain ⟨c10,H⟩ := iS H
          have ck := decide_eq_true c10
          clear c10
          by_cases bQ : ar < (((rd_T36 l0 aa).f2).length : Int)
          ·rw [if_pos bQ] at H
           have bX := decide_eq_true bQ
           clear bQ
           obtain ⟨cl,H⟩ := iS H
           have cm := decide_eq_true cl
           clear cl
           by_cases bR : ((rdOf ByteArray.empty ((rd_T36 l0 aa).f2) ar).size : Int) > 100
           ·rw [if_pos bR] at H
            have bY := decide_eq_true bR
            have bZ : decide (100 < (rdOf ByteArray.empty ((rd_T36 l0 aa).f2) ar).size) = true := decide_eq_true (by omega)
            clear bR
            obtain rfl := Option.some.inj H
            have aD : 0 ≤ (aa : Int) := dA
            have aE : aa < (l0.length : Int) := dA
            obtain ⟨a3,bi,bj,bk,bm,bn,a4,aB,aC,af,ag,ah,ai⟩ := at_T36 a9.out aa aD aE
            cases bn
            have a5 := aK ag
            have a6 := aK af
            clear ag af
            have a7 := aK ai
            have a8 := aK ah
            clear ai ah
            replace aD := eq_true aD
            replace aE := eq_true aE
            have aP : 0 ≤ (aa : Int) := dA
            have aQ : aa < (l0.length : Int) := dA
            obtain ⟨bo,bJ,bK,bL,bN,bO,bu,aL,aM,au,av,aw,ax⟩ := at_T36 a9.out aa aP aQ
            obtain rfl : a3 = bo := (by injection bO)
            have bv := aK av
            have bx := aK au
            clear av au
            have aN := aK ax
            have bz := aK aw
            clear ax aw
            replace aP := eq_true aP
            replace aQ := eq_true aQ
            have ea_ := Option.some.inj (aB.symm.trans aL)
            injection ea_ with ea_ en_ ec_
            subst ea_
            subst ec_
            clear en_
            have ea_ := Option.some.inj (aC.symm.trans aM)
            injection ea_ with ea_ en_ ec_
            subst ea_
            subst ec_
            clear en_
            have aR : 0 ≤ (ar : Int) := dA
            have aS : ar < (((rd_T36 l0 aa).f2).length : Int) := dA
            obtain ⟨b1,bP,bB⟩ := Kd.at_string aN.out ar aR aS
            cases bP
            replace aR := eq_true aR
            replace aS := eq_true aS
            go_wp2
            go_ret
            exact ⟨by first|rfl|(simp;done)|(simp [*];done),by repeat (first|exact Drawn0.refl _|apply Drawn0.step)⟩
           ·rw [if_neg bR] at H
            have bY := decide_eq_false bR
            have bZ : decide (100 < (rdOf ByteArray.empty ((rd_T36 l0 aa).f2) ar).size) = false := decide_eq_false (by omega)
            clear bR
            have H' := aK H
            clear H
            have aD : 0 ≤ (aa : Int) := dA
            have aE : aa < (l0.length : Int) := dA
            obtain ⟨a3,bi,bj,bk,bm,bn,a4,aB,aC,af,ag,ah,ai⟩ := at_T36 a9.out aa aD aE
            cases bn
            have a5 := aK ag
            have a6 := aK af
            clear ag af
            have a7 := aK ai
            have a8 := aK ah
            clear ai ah
            replace aD := eq_true aD
            replace aE := eq_true aE
            have aP : 0 ≤ (aa : Int) := dA
            have aQ : aa < (l0.length : Int) := dA
            obtain ⟨bo,bJ,bK,bL,bN,bO,bu,aL,aM,au,av,aw,ax⟩ := at_T36 a9.out aa aP aQ
            obtain rfl : a3 = bo := (by injection bO)
            have bv := aK av
            have bx := aK au
            clear av au
            have aN := aK ax
            have bz := aK aw
            clear ax aw
            replace aP := eq_true aP
            replace aQ := eq_true aQ
            have ea_ := Option.some.inj (aB.symm.trans aL)
            injection ea_ with ea_ en_ ec_
            subst ea_
            subst ec_
            clear en_
            have ea_ := Option.some.inj (aC.symm.trans aM)
            injection ea_ with ea_ en_ ec_
            subst ea_
            subst ec_
            clear en_
            have aR : 0 ≤ (ar : Int) := dA
            have aS : ar < (((rd_T36 l0 aa).f2).length : Int) := dA
            obtain ⟨b1,bP,bB⟩ := Kd.at_string aN.out ar aR aS
            cases bP
            replace aR := eq_true aR
            replace aS := eq_true aS
            go_wp2
            go_roundg k3
            case measure => have := bC.out;have := b6.out;have := b7.out;omega
            case rel => exact ⟨(wrap64 (ar + 1)),(by first|rfl|(simp;done)|(simp [*];done)),H',⟨by have := bC.out;have := b6.out;have := b7.out;omega⟩,by repeat (first|exact Drawn0.refl _|apply Drawn0.step)⟩
          ·rw [if_neg bQ] at H
           have bX := decide_eq_false bQ
           clear bQ
           have H' := aK H
           clear H
           have aD : 0 ≤ (aa : Int) := dA
           have aE : aa < (l0.length : Int) := dA
           obtain ⟨a3,bi,bj,bk,bm,bn,a4,aB,aC,af,ag,ah,ai⟩ := at_T36 a9.out aa aD aE
           cases bn
           have a5 := aK ag
           have a6 := aK af
           clear ag af
           have a7 := aK ai
           have a8 := aK ah
           clear ai ah
           replace aD := eq_true aD
           replace aE := eq_true aE
           go_wp2
           go_roundg k3
           case measure => have := bC.out;have := b6.out;have := b7.out;omega
           case rel => exact ⟨(wrap64 (aa + 1)),(by first|rfl|(simp;done)|(simp [*];done)),H',⟨by have := bC.out;have := b6.out;have := b7.out;omega⟩,by repeat (first|exact Drawn0.refl _|apply Drawn0.step)⟩
    ·rw [if_neg c3] at H
     have bU := decide_eq_false c3
     clear c3
     obtain rfl := Option.some.inj H
     go_wp2
     go_ret
     exact ⟨by first|rfl|(simp;done)|(simp [*];done),by repeat (first|exact Drawn0.refl _|apply Drawn0.step)⟩

/-! ### r02_Letter: function 93 -/
def r02_Letter.f (a0 : Int) : Option (Bool) := if a0 ≥ 65 then (if a0 ≤ 90 then (some true) else (if a0 ≥ 97 then (some (decide (a0 ≤ 122))) else (some false))) else (if a0 ≥ 97 then (some (decide (a0 ≤ 122))) else (some false))
theorem r02_Letter.calls (a0 : Int) (r : Bool) (w : World) (h : r02_Letter.f a0 = some r) :
  Calls Tryz.prog 93 #[.int .u8 a0] w fun e w' => e = .returned (.bool r) ∧ Drawn0 w w' := by
 have H : (if a0 ≥ 65 then (if a0 ≤ 90 then (some true) else (if a0 ≥ 97 then (some (decide (a0 ≤ 122))) else (some false))) else (if a0 ≥ 97 then (some (decide (a0 ≤ 122))) else (some false))) = some r := h
 clear h
 by_cases c2 : a0 ≥ 65
 ·rw [if_pos c2] at H
  have aa := decide_eq_true c2
  clear c2
  by_cases c3 : a0 ≤ 90
  ·rw [if_pos c3] at H
   have ab := decide_eq_true c3
   clear c3
   obtain rfl := Option.some.inj H
   go_enter Tryz.func93,Tryz.ntmps93
   go_wp2
   go_ret
   exact ⟨by first|rfl|(simp;done)|(simp [*];done),by repeat (first|exact Drawn0.refl _|apply Drawn0.step)⟩
  ·rw [if_neg c3] at H
   have ab := decide_eq_false c3
   clear c3
   by_cases c4 : a0 ≥ 97
   ·rw [if_pos c4] at H
    have ac := decide_eq_true c4
    clear c4
    obtain rfl := Option.some.inj H
    go_enter Tryz.func93,Tryz.ntmps93
    go_wp2
    go_ret
    exact ⟨by first|rfl|(simp;done)|(simp [*];done),by repeat (first|exact Drawn0.refl _|apply Drawn0.step)⟩
   ·rw [if_neg c4] at H
    have ac := decide_eq_false c4
    clear c4
    obtain rfl := Option.some.inj H
    go_enter Tryz.func93,Tryz.ntmps93
    go_wp2
    go_ret
    exact ⟨by first|rfl|(simp;done)|(simp [*];done),by repeat (first|exact Drawn0.refl _|apply Drawn0.step)⟩
 ·rw [if_neg c2] at H
  have aa := decide_eq_false c2
  clear c2
  by_cases c5 : a0 ≥ 97
  ·rw [if_pos c5] at H
   have ad := decide_eq_true c5
   clear c5
   obtain rfl := Option.some.inj H
   go_enter Tryz.func93,Tryz.ntmps93
   go_wp2
   go_ret
   exact ⟨by first|rfl|(simp;done)|(simp [*];done),by repeat (first|exact Drawn0.refl _|apply Drawn0.step)⟩
  ·rw [if_neg c5] at H
   have ad := decide_eq_false c5
   clear c5
   obtain rfl := Option.some.inj H
   go_enter Tryz.func93,Tryz.ntmps93
   go_wp2
   go_ret
   exact ⟨by first|rfl|(simp;done)|(simp [*];done),by repeat (first|exact Drawn0.refl _|apply Drawn0.step)⟩
end Go.Proofs.YtobdkgoapcbipaaGreatDoor.J
