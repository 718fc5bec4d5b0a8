import Derived.Test.YtmgliocboeifdaaGreatDoorFx0
import Derived.Test.YtmgliocboeifdaaGreatDoorFx9
import Derived.Test.YtmgliocboeifdaaGreatDoorFx10
import Derived.Test.YtmgliocboeifdaaGreatDoorFx11
import Derived.Test.YtmgliocboeifdaaGreatDoorFx12
import Derived.Test.YtmgliocboeifdaaGreatDoorFx14
namespace Go.Proofs.YtmgliocboeifdaaGreatDoor.F
open Go.RowKit Go.Proofs.YtmgliocboeifdaaGreatDoorW.PrintWords Go.Proofs.YtmgliocboeifdaaGreatDoorW.PrintLast Go.Proofs.YtmgliocboeifdaaGreatDoorW.PrintMore
set_option maxHeartbeats 4000000
set_option maxRecDepth 100000
attribute [local go_sem] max2_int min2_int max_two min_two max_three min_three max_four min_four
set_option linter.unusedVariables false
set_option linter.unusedSimpArgs false
def l33_alive.f (k : Nat)  : Option (Bool) := (l33_example.f).bind fun aa => ((manifest_Right.f k aa).bind fun ac => (if ac = 0 then (if 3 ≤ (aa.length : Int) then ((manifest_Live.f k (aa.take 3)).bind fun ad => ((r33_SameInts.f k ad (([1, 2] : List Int))).bind fun ae => (if ae = true then ((manifest_Dead.f k (aa.take 3)).bind fun af => ((r33_SameInts.f k af (([7, 9] : List Int))).bind fun ag => (if ag = true then ((manifest_Live.f k aa).bind fun ah => ((r33_SameInts.f k ah (([3] : List Int))).bind fun ai => (if ai = true then ((manifest_Dead.f k aa).bind fun aj => (if (aj.length : Int) = 0 then ((manifest_Encode.f k 1 1 5 ([] : List Int) ([] : List Int) ([] : List ByteArray)).bind fun ak => (if (strOfNums ak).toList = ([1, 1, 5, 0, 0, 0] : List UInt8) then (if 0 < (aa.length : Int) then ((manifest_Right.f k (([(⟨(rd_T30 aa 0).f0, (rd_T30 aa 0).f1, (rd_T30 aa 0).f2, (rd_T30 aa 0).f3, (rd_T30 aa 0).f4, (rd_T30 aa 0).f5⟩ : S30), (⟨2, 1, 1, ([] : List Int), ([] : List Int), ([] : List ByteArray)⟩ : S30)] : List (S30)))).bind fun al => ((manifest_Right.f k (([(⟨(rd_T30 aa 0).f0, (rd_T30 aa 0).f1, (rd_T30 aa 0).f2, (rd_T30 aa 0).f3, (rd_T30 aa 0).f4, (rd_T30 aa 0).f5⟩ : S30), (⟨2, 3, 2, ([] : List Int), (([4] : List Int)), ([] : List ByteArray)⟩ : S30)] : List (S30)))).bind fun am => ((manifest_Right.f k (([(⟨1, 2, 0, ([] : List Int), ([] : List Int), ([] : List ByteArray)⟩ : S30)] : List (S30)))).bind fun an => ((manifest_Write.f k aa).bind fun ao => ((manifest_Recover.f k ao).bind fun ab => (if al = 7 then (if am = 8 then (if an = 1 then ((r33_SameAll.f k ab.1 aa).bind fun ap => (if ap = true then ((manifest_Write.f k aa).bind fun aq => (if ab.2 = (aq.length : Int) then (some (decide (ab.2 > 0))) else (none))) else (none))) else (none)) else (none)) else (none))))))) else (none)) else (none))) else (none))) else (none)))) else (none)))) else (none)))) else (none)) else (none)))
theorem l33_alive.mono : ∀ k, LeO (l33_alive.f k ) (l33_alive.f (k + 1) ) := by
 intro  k
 unfold l33_alive.f
 repeat' (with_reducible first|exact r33_SameAll.mono _ _ _|exact r33_SameInts.mono _ _ _|exact manifest_Dead.mono _ _|exact manifest_Encode.mono _ _ _ _ _ _ _|exact manifest_Live.mono _ _|exact manifest_Recover.mono _ _|exact manifest_Right.mono _ _|exact manifest_Write.mono _ _|exact LeO.refl _|exact LeO.none _|refine LeO.ite ?_ ?_|refine LeO.bind ?_ (fun _ => ?_))
theorem l33_alive.calls (k : Nat)  (r : Bool) (w : World) (h : l33_alive.f k  = some r) :
  Calls Tryz.prog 6 #[] w fun e w' => e = .returned (.bool r) ∧ Below w.heap.size w w' := by
 have e6 := Tryz.underlying30
 have HB := aK (Below.refl w.heap.size w)
 unfold l33_alive.f at h
 have H := h
 clear h
 replace H := Option.bind_eq_some_iff.mp H
 obtain ⟨aa,dN,H⟩ := H
 have A1 := aK dN
 clear dN
 replace H := Option.bind_eq_some_iff.mp H
 obtain ⟨dk,dO,H⟩ := H
 have A2 := aK dO
 clear dO
 by_cases c3 : dk = 0
 ·rw [if_pos c3] at H
  have e7 := beq_iff_eq.mpr c3
  have e8 := bne_eq_false_iff_eq.mpr c3
  clear c3
  obtain ⟨c4,H⟩ := iS H
  have e9 := eq_true c4
  have fa := decide_eq_true c4
  clear c4
  obtain ⟨cn,bQ⟩ : ∃ y_ : List (S30),y_ = (aa.take 3) := ⟨_,rfl⟩
  replace H : ((manifest_Live.f k cn).bind fun av => ((r33_SameInts.f k av (([1,2] : List Int))).bind fun cH => (if cH = true then ((manifest_Dead.f k (aa.take 3)).bind fun au => ((r33_SameInts.f k au (([7,9] : List Int))).bind fun bR => (if bR = true then ((manifest_Live.f k aa).bind fun ao => ((r33_SameInts.f k ao (([3] : List Int))).bind fun bo => (if bo = true then ((manifest_Dead.f k aa).bind fun ap => (if (ap.length : Int) = 0 then ((manifest_Encode.f k 1 1 5 ([] : List Int) ([] : List Int) ([] : List ByteArray)).bind fun bm => (if (strOfNums bm).toList = ([1,1,5,0,0,0] : List UInt8) then (if 0 < (aa.length : Int) then ((manifest_Right.f k (([(⟨(rd_T30 aa 0).f0,(rd_T30 aa 0).f1,(rd_T30 aa 0).f2,(rd_T30 aa 0).f3,(rd_T30 aa 0).f4,(rd_T30 aa 0).f5⟩ : S30),(⟨2,1,1,([] : List Int),([] : List Int),([] : List ByteArray)⟩ : S30)] : List (S30)))).bind fun aX => ((manifest_Right.f k (([(⟨(rd_T30 aa 0).f0,(rd_T30 aa 0).f1,(rd_T30 aa 0).f2,(rd_T30 aa 0).f3,(rd_T30 aa 0).f4,(rd_T30 aa 0).f5⟩ : S30),(⟨2,3,2,([] : List Int),(([4] : List Int)),([] : List ByteArray)⟩ : S30)] : List (S30)))).bind fun aV => ((manifest_Right.f k (([(⟨1,2,0,([] : List Int),([] : List Int),([] : List ByteArray)⟩ : S30)] : List (S30)))).bind fun aS => ((manifest_Write.f k aa).bind fun aQ => ((manifest_Recover.f k aQ).bind fun af => (if aX = 7 then (if aV = 8 then (if aS = 1 then ((r33_SameAll.f k af.1 aa).bind fun aT => (if aT = true then ((manifest_Write.f k aa).bind fun aR => (if af.2 = (aR.length : Int) then (some (decide (af.2 > 0))) else (none))) else (none))) else (none)) else (none)) else (none))))))) else (none)) else (none))) else (none))) else (none)))) else (none)))) else (none)))) = some r := by first|(rw [bQ];with_reducible exact H)|(have aY := (Option.bind_some _ _).symm.trans H;rw [bQ];with_reducible exact aY)|(have aY := (Option.bind_some _ _).symm.trans H;with_reducible exact aY)|with_reducible exact H|(rw [bQ];exact H)|exact H
  have cO := aK bQ
  clear bQ
  replace H := Option.bind_eq_some_iff.mp H
  obtain ⟨av,eD,H⟩ := H
  have A5 := aK eD
  clear eD
  obtain ⟨aw,bS⟩ : ∃ y_ : List Int,y_ = (([1,2] : List Int)) := ⟨_,rfl⟩
  replace H : ((r33_SameInts.f k av aw).bind fun cH => (if cH = true then ((manifest_Dead.f k (aa.take 3)).bind fun au => ((r33_SameInts.f k au (([7,9] : List Int))).bind fun bR => (if bR = true then ((manifest_Live.f k aa).bind fun ao => ((r33_SameInts.f k ao (([3] : List Int))).bind fun bo => (if bo = true then ((manifest_Dead.f k aa).bind fun ap => (if (ap.length : Int) = 0 then ((manifest_Encode.f k 1 1 5 ([] : List Int) ([] : List Int) ([] : List ByteArray)).bind fun bm => (if (strOfNums bm).toList = ([1,1,5,0,0,0] : List UInt8) then (if 0 < (aa.length : Int) then ((manifest_Right.f k (([(⟨(rd_T30 aa 0).f0,(rd_T30 aa 0).f1,(rd_T30 aa 0).f2,(rd_T30 aa 0).f3,(rd_T30 aa 0).f4,(rd_T30 aa 0).f5⟩ : S30),(⟨2,1,1,([] : List Int),([] : List Int),([] : List ByteArray)⟩ : S30)] : List (S30)))).bind fun aX => ((manifest_Right.f k (([(⟨(rd_T30 aa 0).f0,(rd_T30 aa 0).f1,(rd_T30 aa 0).f2,(rd_T30 aa 0).f3,(rd_T30 aa 0).f4,(rd_T30 aa 0).f5⟩ : S30),(⟨2,3,2,([] : List Int),(([4] : List Int)),([] : List ByteArray)⟩ : S30)] : List (S30)))).bind fun aV => ((manifest_Right.f k (([(⟨1,2,0,([] : List Int),([] : List Int),([] : List ByteArray)⟩ : S30)] : List (S30)))).bind fun aS => ((manifest_Write.f k aa).bind fun aQ => ((manifest_Recover.f k aQ).bind fun af => (if aX = 7 then (if aV = 8 then (if aS = 1 then ((r33_SameAll.f k af.1 aa).bind fun aT => (if aT = true then ((manifest_Write.f k aa).bind fun aR => (if af.2 = (aR.length : Int) then (some (decide (af.2 > 0))) else (none))) else (none))) else (none)) else (none)) else (none))))))) else (none)) else (none))) else (none))) else (none)))) else (none)))) else (none))) = some r := by first|(rw [bS];with_reducible exact H)|(have aY := (Option.bind_some _ _).symm.trans H;rw [bS];with_reducible exact aY)|(have aY := (Option.bind_some _ _).symm.trans H;with_reducible exact aY)|with_reducible exact H|(rw [bS];exact H)|exact H
  have cP := aK bS
  clear bS
  replace H := Option.bind_eq_some_iff.mp H
  obtain ⟨cH,eE,H⟩ := H
  have A6 := aK eE
  clear eE
  obtain ⟨c7,H⟩ := iS H
  subst c7
  have fb := eq_true (dA : 3 ≤ (aa.length : Int))
  obtain ⟨co,bT⟩ : ∃ y_ : List (S30),y_ = (aa.take 3) := ⟨_,rfl⟩
  replace H : ((manifest_Dead.f k co).bind fun au => ((r33_SameInts.f k au (([7,9] : List Int))).bind fun bR => (if bR = true then ((manifest_Live.f k aa).bind fun ao => ((r33_SameInts.f k ao (([3] : List Int))).bind fun bo => (if bo = true then ((manifest_Dead.f k aa).bind fun ap => (if (ap.length : Int) = 0 then ((manifest_Encode.f k 1 1 5 ([] : List Int) ([] : List Int) ([] : List ByteArray)).bind fun bm => (if (strOfNums bm).toList = ([1,1,5,0,0,0] : List UInt8) then (if 0 < (aa.length : Int) then ((manifest_Right.f k (([(⟨(rd_T30 aa 0).f0,(rd_T30 aa 0).f1,(rd_T30 aa 0).f2,(rd_T30 aa 0).f3,(rd_T30 aa 0).f4,(rd_T30 aa 0).f5⟩ : S30),(⟨2,1,1,([] : List Int),([] : List Int),([] : List ByteArray)⟩ : S30)] : List (S30)))).bind fun aX => ((manifest_Right.f k (([(⟨(rd_T30 aa 0).f0,(rd_T30 aa 0).f1,(rd_T30 aa 0).f2,(rd_T30 aa 0).f3,(rd_T30 aa 0).f4,(rd_T30 aa 0).f5⟩ : S30),(⟨2,3,2,([] : List Int),(([4] : List Int)),([] : List ByteArray)⟩ : S30)] : List (S30)))).bind fun aV => ((manifest_Right.f k (([(⟨1,2,0,([] : List Int),([] : List Int),([] : List ByteArray)⟩ : S30)] : List (S30)))).bind fun aS => ((manifest_Write.f k aa).bind fun aQ => ((manifest_Recover.f k aQ).bind fun af => (if aX = 7 then (if aV = 8 then (if aS = 1 then ((r33_SameAll.f k af.1 aa).bind fun aT => (if aT = true then ((manifest_Write.f k aa).bind fun aR => (if af.2 = (aR.length : Int) then (some (decide (af.2 > 0))) else (none))) else (none))) else (none)) else (none)) else (none))))))) else (none)) else (none))) else (none))) else (none)))) else (none)))) = some r := by first|(rw [bT];with_reducible exact H)|(have aY := (Option.bind_some _ _).symm.trans H;rw [bT];with_reducible exact aY)|(have aY := (Option.bind_some _ _).symm.trans H;with_reducible exact aY)|with_reducible exact H|(rw [bT];exact H)|exact H
  have cQ := aK bT
  clear bT
  replace H := Option.bind_eq_some_iff.mp H
  obtain ⟨au,eF,H⟩ := H
  have A9 := aK eF
  clear eF
  obtain ⟨ax,bU⟩ : ∃ y_ : List Int,y_ = (([7,9] : List Int)) := ⟨_,rfl⟩
  replace H : ((r33_SameInts.f k au ax).bind fun bR => (if bR = true then ((manifest_Live.f k aa).bind fun ao => ((r33_SameInts.f k ao (([3] : List Int))).bind fun bo => (if bo = true then ((manifest_Dead.f k aa).bind fun ap => (if (ap.length : Int) = 0 then ((manifest_Encode.f k 1 1 5 ([] : List Int) ([] : List Int) ([] : List ByteArray)).bind fun bm => (if (strOfNums bm).toList = ([1,1,5,0,0,0] : List UInt8) then (if 0 < (aa.length : Int) then ((manifest_Right.f k (([(⟨(rd_T30 aa 0).f0,(rd_T30 aa 0).f1,(rd_T30 aa 0).f2,(rd_T30 aa 0).f3,(rd_T30 aa 0).f4,(rd_T30 aa 0).f5⟩ : S30),(⟨2,1,1,([] : List Int),([] : List Int),([] : List ByteArray)⟩ : S30)] : List (S30)))).bind fun aX => ((manifest_Right.f k (([(⟨(rd_T30 aa 0).f0,(rd_T30 aa 0).f1,(rd_T30 aa 0).f2,(rd_T30 aa 0).f3,(rd_T30 aa 0).f4,(rd_T30 aa 0).f5⟩ : S30),(⟨2,3,2,([] : List Int),(([4] : List Int)),([] : List ByteArray)⟩ : S30)] : List (S30)))).bind fun aV => ((manifest_Right.f k (([(⟨1,2,0,([] : List Int),([] : List Int),([] : List ByteArray)⟩ : S30)] : List (S30)))).bind fun aS => ((manifest_Write.f k aa).bind fun aQ => ((manifest_Recover.f k aQ).bind fun af => (if aX = 7 then (if aV = 8 then (if aS = 1 then ((r33_SameAll.f k af.1 aa).bind fun aT => (if aT = true then ((manifest_Write.f k aa).bind fun aR => (if af.2 = (aR.length : Int) then (some (decide (af.2 > 0))) else (none))) else (none))) else (none)) else (none)) else (none))))))) else (none)) else (none))) else (none))) else (none)))) else (none))) = some r := by first|(rw [bU];with_reducible exact H)|(have aY := (Option.bind_some _ _).symm.trans H;rw [bU];with_reducible exact aY)|(have aY := (Option.bind_some _ _).symm.trans H;with_reducible exact aY)|with_reducible exact H|(rw [bU];exact H)|exact H
  have cR := aK bU
  clear bU
  replace H := Option.bind_eq_some_iff.mp H
  obtain ⟨bR,dl,H⟩ := H
  have dN := aK dl
  clear dl
  obtain ⟨fc,H⟩ := iS H
  subst fc
  replace H := Option.bind_eq_some_iff.mp H
  obtain ⟨ao,dm,H⟩ := H
  have fd := aK dm
  clear dm
  obtain ⟨ay,bV⟩ : ∃ y_ : List Int,y_ = (([3] : List Int)) := ⟨_,rfl⟩
  replace H : ((r33_SameInts.f k ao ay).bind fun bo => (if bo = true then ((manifest_Dead.f k aa).bind fun ap => (if (ap.length : Int) = 0 then ((manifest_Encode.f k 1 1 5 ([] : List Int) ([] : List Int) ([] : List ByteArray)).bind fun bm => (if (strOfNums bm).toList = ([1,1,5,0,0,0] : List UInt8) then (if 0 < (aa.length : Int) then ((manifest_Right.f k (([(⟨(rd_T30 aa 0).f0,(rd_T30 aa 0).f1,(rd_T30 aa 0).f2,(rd_T30 aa 0).f3,(rd_T30 aa 0).f4,(rd_T30 aa 0).f5⟩ : S30),(⟨2,1,1,([] : List Int),([] : List Int),([] : List ByteArray)⟩ : S30)] : List (S30)))).bind fun aX => ((manifest_Right.f k (([(⟨(rd_T30 aa 0).f0,(rd_T30 aa 0).f1,(rd_T30 aa 0).f2,(rd_T30 aa 0).f3,(rd_T30 aa 0).f4,(rd_T30 aa 0).f5⟩ : S30),(⟨2,3,2,([] : List Int),(([4] : List Int)),([] : List ByteArray)⟩ : S30)] : List (S30)))).bind fun aV => ((manifest_Right.f k (([(⟨1,2,0,([] : List Int),([] : List Int),([] : List ByteArray)⟩ : S30)] : List (S30)))).bind fun aS => ((manifest_Write.f k aa).bind fun aQ => ((manifest_Recover.f k aQ).bind fun af => (if aX = 7 then (if aV = 8 then (if aS = 1 then ((r33_SameAll.f k af.1 aa).bind fun aT => (if aT = true then ((manifest_Write.f k aa).bind fun aR => (if af.2 = (aR.length : Int) then (some (decide (af.2 > 0))) else (none))) else (none))) else (none)) else (none)) else (none))))))) else (none)) else (none))) else (none))) else (none))) = some r := by first|(rw [bV];with_reducible exact H)|(have aY := (Option.bind_some _ _).symm.trans H;rw [bV];with_reducible exact aY)|(have aY := (Option.bind_some _ _).symm.trans H;with_reducible exact aY)|with_reducible exact H|(rw [bV];exact H)|exact H
  have cS := aK bV
  clear bV
  replace H := Option.bind_eq_some_iff.mp H
  obtain ⟨bo,dn,H⟩ := H
  have fe := aK dn
  clear dn
  obtain ⟨ff,H⟩ := iS H
  subst ff
  replace H := Option.bind_eq_some_iff.mp H
  obtain ⟨ap,dp,H⟩ := H
  have fg := aK dp
  clear dp
  obtain ⟨ed,H⟩ := iS H
  have eG := beq_iff_eq.mpr ed
  have eH := bne_eq_false_iff_eq.mpr ed
  clear ed
  replace H := Option.bind_eq_some_iff.mp H
  obtain ⟨bm,dq,H⟩ := H
  have fh := aK dq
  clear dq
  obtain ⟨ee,H⟩ := iS H
  have eI := beq_iff_eq.mpr ee
  have eJ := bne_eq_false_iff_eq.mpr ee
  clear ee
  obtain ⟨eK,H⟩ := iS H
  have eL := decide_eq_true eK
  have eM : decide (0 < aa.length) = true := decide_eq_true (by omega)
  clear eK
  obtain ⟨aW,bW⟩ : ∃ y_ : List (S30),y_ = (([(⟨(rd_T30 aa 0).f0,(rd_T30 aa 0).f1,(rd_T30 aa 0).f2,(rd_T30 aa 0).f3,(rd_T30 aa 0).f4,(rd_T30 aa 0).f5⟩ : S30),(⟨2,1,1,([] : List Int),([] : List Int),([] : List ByteArray)⟩ : S30)] : List (S30))) := ⟨_,rfl⟩
  replace H : ((manifest_Right.f k aW).bind fun aX => ((manifest_Right.f k (([(⟨(rd_T30 aa 0).f0,(rd_T30 aa 0).f1,(rd_T30 aa 0).f2,(rd_T30 aa 0).f3,(rd_T30 aa 0).f4,(rd_T30 aa 0).f5⟩ : S30),(⟨2,3,2,([] : List Int),(([4] : List Int)),([] : List ByteArray)⟩ : S30)] : List (S30)))).bind fun aV => ((manifest_Right.f k (([(⟨1,2,0,([] : List Int),([] : List Int),([] : List ByteArray)⟩ : S30)] : List (S30)))).bind fun aS => ((manifest_Write.f k aa).bind fun aQ => ((manifest_Recover.f k aQ).bind fun af => (if aX = 7 then (if aV = 8 then (if aS = 1 then ((r33_SameAll.f k af.1 aa).bind fun aT => (if aT = true then ((manifest_Write.f k aa).bind fun aR => (if af.2 = (aR.length : Int) then (some (decide (af.2 > 0))) else (none))) else (none))) else (none)) else (none)) else (none))))))) = some r := by first|(rw [bW];with_reducible exact H)|(have aY := (Option.bind_some _ _).symm.trans H;rw [bW];with_reducible exact aY)|(have aY := (Option.bind_some _ _).symm.trans H;with_reducible exact aY)|with_reducible exact H|(rw [bW];exact H)|exact H
  have cT := aK bW
  clear bW
  replace H := Option.bind_eq_some_iff.mp H
  obtain ⟨aX,dr,H⟩ := H
  have dO := aK dr
  clear dr
  obtain ⟨b1,bX⟩ : ∃ y_ : List Int,y_ = (([4] : List Int)) := ⟨_,rfl⟩
  replace H : ((manifest_Right.f k (([(⟨(rd_T30 aa 0).f0,(rd_T30 aa 0).f1,(rd_T30 aa 0).f2,(rd_T30 aa 0).f3,(rd_T30 aa 0).f4,(rd_T30 aa 0).f5⟩ : S30),(⟨2,3,2,([] : List Int),b1,([] : List ByteArray)⟩ : S30)] : List (S30)))).bind fun aV => ((manifest_Right.f k (([(⟨1,2,0,([] : List Int),([] : List Int),([] : List ByteArray)⟩ : S30)] : List (S30)))).bind fun aS => ((manifest_Write.f k aa).bind fun aQ => ((manifest_Recover.f k aQ).bind fun af => (if aX = 7 then (if aV = 8 then (if aS = 1 then ((r33_SameAll.f k af.1 aa).bind fun aT => (if aT = true then ((manifest_Write.f k aa).bind fun aR => (if af.2 = (aR.length : Int) then (some (decide (af.2 > 0))) else (none))) else (none))) else (none)) else (none)) else (none)))))) = some r := by first|(rw [bX];with_reducible exact H)|(have aY := (Option.bind_some _ _).symm.trans H;rw [bX];with_reducible exact aY)|(have aY := (Option.bind_some _ _).symm.trans H;with_reducible exact aY)|with_reducible exact H|(rw [bX];exact H)|exact H
  have cU := aK bX
  clear bX
  obtain ⟨b2,bY⟩ : ∃ y_ : List (S30),y_ = (([(⟨(rd_T30 aa 0).f0,(rd_T30 aa 0).f1,(rd_T30 aa 0).f2,(rd_T30 aa 0).f3,(rd_T30 aa 0).f4,(rd_T30 aa 0).f5⟩ : S30),(⟨2,3,2,([] : List Int),b1,([] : List ByteArray)⟩ : S30)] : List (S30))) := ⟨_,rfl⟩
  replace H : ((manifest_Right.f k b2).bind fun aV => ((manifest_Right.f k (([(⟨1,2,0,([] : List Int),([] : List Int),([] : List ByteArray)⟩ : S30)] : List (S30)))).bind fun aS => ((manifest_Write.f k aa).bind fun aQ => ((manifest_Recover.f k aQ).bind fun af => (if aX = 7 then (if aV = 8 then (if aS = 1 then ((r33_SameAll.f k af.1 aa).bind fun aT => (if aT = true then ((manifest_Write.f k aa).bind fun aR => (if af.2 = (aR.length : Int) then (some (decide (af.2 > 0))) else (none))) else (none))) else (none)) else (none)) else (none)))))) = some r := by first|(rw [bY];with_reducible exact H)|(have aY := (Option.bind_some _ _).symm.trans H;rw [bY];with_reducible exact aY)|(have aY := (Option.bind_some _ _).symm.trans H;with_reducible exact aY)|with_reducible exact H|(rw [bY];exact H)|exact H
  have cV := aK bY
  clear bY
  replace H := Option.bind_eq_some_iff.mp H
  obtain ⟨aV,ds,H⟩ := H
  have fi := aK ds
  clear ds
  obtain ⟨cI,bZ⟩ : ∃ y_ : List (S30),y_ = (([(⟨1,2,0,([] : List Int),([] : List Int),([] : List ByteArray)⟩ : S30)] : List (S30))) := ⟨_,rfl⟩
  replace H : ((manifest_Right.f k cI).bind fun aS => ((manifest_Write.f k aa).bind fun aQ => ((manifest_Recover.f k aQ).bind fun af => (if aX = 7 then (if aV = 8 then (if aS = 1 then ((r33_SameAll.f k af.1 aa).bind fun aT => (if aT = true then ((manifest_Write.f k aa).bind fun aR => (if af.2 = (aR.length : Int) then (some (decide (af.2 > 0))) else (none))) else (none))) else (none)) else (none)) else (none))))) = some r := by first|(rw [bZ];with_reducible exact H)|(have aY := (Option.bind_some _ _).symm.trans H;rw [bZ];with_reducible exact aY)|(have aY := (Option.bind_some _ _).symm.trans H;with_reducible exact aY)|with_reducible exact H|(rw [bZ];exact H)|exact H
  have cW := aK bZ
  clear bZ
  replace H := Option.bind_eq_some_iff.mp H
  obtain ⟨aS,dt,H⟩ := H
  have fj := aK dt
  clear dt
  replace H := Option.bind_eq_some_iff.mp H
  obtain ⟨aQ,du,H⟩ := H
  have fk := aK du
  clear du
  replace H := Option.bind_eq_some_iff.mp H
  obtain ⟨⟨c1,da⟩,dv,H⟩ := H
  replace H : (if aX = 7 then (if aV = 8 then (if aS = 1 then ((r33_SameAll.f k c1 aa).bind fun aT => (if aT = true then ((manifest_Write.f k aa).bind fun aR => (if da = (aR.length : Int) then (some (decide (da > 0))) else (none))) else (none))) else (none)) else (none)) else (none)) = some r := H
  have fl := aK dv
  clear dv
  obtain ⟨ef,H⟩ := iS H
  have eN := beq_iff_eq.mpr ef
  have eO := bne_eq_false_iff_eq.mpr ef
  clear ef
  obtain ⟨eg,H⟩ := iS H
  have eP := beq_iff_eq.mpr eg
  have eQ := bne_eq_false_iff_eq.mpr eg
  clear eg
  obtain ⟨eh,H⟩ := iS H
  have eR := beq_iff_eq.mpr eh
  have eS := bne_eq_false_iff_eq.mpr eh
  clear eh
  replace H := Option.bind_eq_some_iff.mp H
  obtain ⟨aT,dw,H⟩ := H
  have fm := aK dw
  clear dw
  obtain ⟨fn,H⟩ := iS H
  subst fn
  replace H := Option.bind_eq_some_iff.mp H
  obtain ⟨aR,dx,H⟩ := H
  have fo := aK dx
  clear dx
  obtain ⟨c31,H⟩ := iS H
  have eT := beq_iff_eq.mpr c31
  have eU := bne_eq_false_iff_eq.mpr c31
  clear c31
  obtain rfl := Option.some.inj H
  go_enter Tryz.func6,Tryz.ntmps6
  go_wp2_with (first|((with_reducible refine gate_callee (f := 20) rfl ?_);refine gL 7 Tryz.func20 #[] ?_;(with_reducible refine (l33_example.calls  aa _ A1.out).mono ?_);rintro e fP ⟨fp,rfl,az,hb⟩;refine ⟨_,rfl,?_⟩;have ab := aK (Kd.N_lower (Kd.N_mono (ok' := fun k_ => True) az (fun k_ hk_ => trivial)) (below_size (bM HB.out)));replace HB := aK (below_step (bM HB.out) hb);(try clear hb);(try clear hk);(try clear az);obtain ⟨b3,aq,ei⟩ := Kd.N_slice ab.out;subst ei)|((with_reducible refine gate_callee (f := 8) rfl ?_);refine gL 9 Tryz.func8 #[.slice b3 aa.length aq] ?_;(with_reducible refine (manifest_Right.calls k _ _ aa dk _ ?ai ?aj A2.out).mono ?_);(case ai => exact cM (Kd.N_reads' ab.out).2.2);(case aj => exact (Kd.N_reads' ab.out).2.1);rintro e fQ ⟨rfl,hb⟩;refine ⟨_,rfl,?_⟩;replace ab := aK (Kd.N_below (nM ab.out) hb);replace HB := aK (below_step (bM HB.out) hb);(try clear hb);(try clear hk);have ej : (3 : Int) ≤ ((aa.length : Int) : Int) := dA;obtain ⟨fq,cX,_,dy,_⟩ := info_parts info30;have b6 : aa.length ≤ aq := (Kd.N_reads' ab.out).2.1;have dz : Kd.F k30 _ _ b3 aa.length aa := (Kd.V_at (base := w.heap.size) (Kd.N_V ab.out)).2.2;have cq := cut_to (P := Tryz.prog) 22 30 .i64 Tryz.underlying22 cX b3 aa.length aq 3 (by omega) ej b6;have db := Kd.F_take (m := 3) dz (by omega);have dc : cn.length = (3 : Int).toNat := (by rw [cO.out,List.length_take];omega);rw [← cO.out] at db;rw [← dc] at cq;have cY := aK (show Kd.V k30 30 _ w.heap.size _ (.slice b3 cn.length aq) cn from Kd.V_mk (by omega) db);have eV := aK (show cn.length ≤ aq from by omega);clear db dz b6 cX dy;have fr := aK dc;clear dc;replace ej := eq_true ej)|(go_at_call 22;(with_reducible refine (manifest_Live.calls k _ _ cn av _ ?ai ?aj A5.out).mono ?_);(case ai => exact cM (Kd.V_reads' cY.out).2.2);(case aj => exact (Kd.V_reads' cY.out).2.1);rintro e fR ⟨fs,rfl,az,hb⟩;replace ab := aK (Kd.N_elder' (nM ab.out) (Kd.R_base az) hb);have ac := aK (Kd.R_lower az (below_size (bM HB.out)));replace HB := aK (below_step (bM HB.out) hb);(try clear hb);(try clear hk);(try clear az))|((with_reducible refine gate_dst (N := 15) rfl ?_);(try (refine gate_guard (by rfl) ?_;dsimp only));refine Kd.R_lit (Kd.int .i64) _ 3 ?hg (N := 15) ?hd (xs := ([1,2] : List Int)) (inner := [.int .i64 1,.int .i64 2]) (ok := fun _ => True) (okp := fun _ => True) ?hr ?hp (fun _ hk => hk) trivial (Below.refl _ _) (Nat.le_refl _) (by simp) ?_;(case hd => rfl);(case hg => rfl);(case hr => first|(go_simp;done)|(go_simp;rfl));(case hp => exact (Reps.one (show Kd.M (Kd.int .i64) _ _ _ 1 [.int .i64 1] from rfl) (Reps.one (show Kd.M (Kd.int .i64) _ _ _ 2 [.int .i64 2] from rfl) (Reps.none _ _))));intro ft fS b4 hb hg_ hnew_;clear hg_ hnew_;(first|rw [← cP.out] at b4|(simp only [Int.reduceToNat] at b4;rw [← cP.out] at b4));replace ab := aK (Kd.N_elder' (nM ab.out) (Kd.R_base b4) hb);have ad := aK (Kd.R_lower (Kd.R_new' b4 (Kd.R_lt (rM ac.out))) (below_size (bM HB.out)));replace ac := aK (Kd.R_elder' (rM ac.out) (Kd.R_base b4) hb);replace HB := aK (below_step (bM HB.out) hb);clear hb b4;obtain ⟨aA,aB,ek⟩ := Kd.R_slice ac.out;subst ek;obtain ⟨aC,aD,el⟩ := Kd.R_slice ad.out;subst el)|(go_at_call 21;(with_reducible refine (r33_SameInts.calls k _ _ av _ _ aw true _ ?ai ?aj ?a2 ?a3 A6.out).mono ?_);(case ai => exact cM (Kd.R_reads' ac.out).2.2);(case aj => exact (Kd.R_reads' ac.out).2.1);(case a2 => exact cM (Kd.R_reads' ad.out).2.2);(case a3 => exact (Kd.R_reads' ad.out).2.1);rintro e w' ⟨rfl,⟨nd,rfl⟩⟩;have em : (3 : Int) ≤ ((aa.length : Int) : Int) := dA;obtain ⟨fu,cZ,_,dB,_⟩ := info_parts info30;have b7 : aa.length ≤ aq := (Kd.N_reads' ab.out).2.1;have dC : Kd.F k30 _ _ b3 aa.length aa := (Kd.V_at (base := w.heap.size) (Kd.N_V ab.out)).2.2;(try clear cq);have dd := cut_to (P := Tryz.prog) 22 30 .i64 Tryz.underlying22 cZ b3 aa.length aq 3 (by omega) em b7;have de := Kd.F_take (m := 3) dC (by omega);have df : co.length = (3 : Int).toNat := (by rw [cQ.out,List.length_take];omega);rw [← cQ.out] at de;rw [← df] at dd;have c0 := aK (show Kd.V k30 30 _ w.heap.size _ (.slice b3 co.length aq) co from Kd.V_mk (by omega) de);have eW := aK (show co.length ≤ aq from by omega);clear de dC b7 cZ dB;have fv := aK df;clear df;replace em := eq_true em)|(go_at_call 23;(with_reducible refine (manifest_Dead.calls k _ _ co au _ ?ai ?aj A9.out).mono ?_);(case ai => exact cM (Kd.V_reads' c0.out).2.2);(case aj => exact (Kd.V_reads' c0.out).2.1);rintro e fT ⟨fw,rfl,az,hb⟩;replace ab := aK (Kd.N_elder' (nM ab.out) (Kd.R_base az) hb);have ae := aK (Kd.R_lower (Kd.R_new' (Kd.R_new' az (Kd.R_lt (rM ac.out))) (Kd.R_lt (rM ad.out))) (below_size (bM HB.out)));replace ac := aK (Kd.R_elder' (rM ac.out) (Kd.R_base az) hb);replace ad := aK (Kd.R_elder' (rM ad.out) (Kd.R_base az) hb);replace HB := aK (below_step (bM HB.out) hb);(try clear hb);(try clear hk);(try clear az))|((with_reducible refine gate_dst (N := 23) rfl ?_);(try (refine gate_guard (by rfl) ?_;dsimp only));refine Kd.R_lit (Kd.int .i64) _ 3 ?hg (N := 23) ?hd (xs := ([7,9] : List Int)) (inner := [.int .i64 7,.int .i64 9]) (ok := fun _ => True) (okp := fun _ => True) ?hr ?hp (fun _ hk => hk) trivial (Below.refl _ _) (Nat.le_refl _) (by simp) ?_;(case hd => rfl);(case hg => rfl);(case hr => first|(go_simp;done)|(go_simp;rfl));(case hp => exact (Reps.one (show Kd.M (Kd.int .i64) _ _ _ 7 [.int .i64 7] from rfl) (Reps.one (show Kd.M (Kd.int .i64) _ _ _ 9 [.int .i64 9] from rfl) (Reps.none _ _))));intro fx fU bp hb hg_ hnew_;clear hg_ hnew_;(first|rw [← cR.out] at bp|(simp only [Int.reduceToNat] at bp;rw [← cR.out] at bp));replace ab := aK (Kd.N_elder' (nM ab.out) (Kd.R_base bp) hb);have ag := aK (Kd.R_lower (Kd.R_new' (Kd.R_new' (Kd.R_new' bp (Kd.R_lt (rM ac.out))) (Kd.R_lt (rM ad.out))) (Kd.R_lt (rM ae.out))) (below_size (bM HB.out)));replace ac := aK (Kd.R_elder' (rM ac.out) (Kd.R_base bp) hb);replace ad := aK (Kd.R_elder' (rM ad.out) (Kd.R_base bp) hb);replace ae := aK (Kd.R_elder' (rM ae.out) (Kd.R_base bp) hb);replace HB := aK (below_step (bM HB.out) hb);clear hb bp;obtain ⟨aE,aF,en⟩ := Kd.R_slice ae.out;subst en;obtain ⟨aG,aH,ep⟩ := Kd.R_slice ag.out;subst ep)|(go_at_call 21;(with_reducible refine (r33_SameInts.calls k _ _ au _ _ ax true _ ?ai ?aj ?a2 ?a3 dN.out).mono ?_);(case ai => exact cM (Kd.R_reads' ae.out).2.2);(case aj => exact (Kd.R_reads' ae.out).2.1);(case a2 => exact cM (Kd.R_reads' ag.out).2.2);(case a3 => exact (Kd.R_reads' ag.out).2.1);rintro e w' ⟨rfl,⟨nd,rfl⟩⟩)|(go_at_call 22;(with_reducible refine (manifest_Live.calls k _ _ aa ao _ ?ai ?aj fd.out).mono ?_);(case ai => exact cM (Kd.N_reads' ab.out).2.2);(case aj => exact (Kd.N_reads' ab.out).2.1);rintro e fV ⟨fy,rfl,az,hb⟩;replace ab := aK (Kd.N_elder' (nM ab.out) (Kd.R_base az) hb);have ah := aK (Kd.R_lower (Kd.R_new' (Kd.R_new' (Kd.R_new' (Kd.R_new' az (Kd.R_lt (rM ac.out))) (Kd.R_lt (rM ad.out))) (Kd.R_lt (rM ae.out))) (Kd.R_lt (rM ag.out))) (below_size (bM HB.out)));replace ac := aK (Kd.R_elder' (rM ac.out) (Kd.R_base az) hb);replace ad := aK (Kd.R_elder' (rM ad.out) (Kd.R_base az) hb);replace ae := aK (Kd.R_elder' (rM ae.out) (Kd.R_base az) hb);replace ag := aK (Kd.R_elder' (rM ag.out) (Kd.R_base az) hb);replace HB := aK (below_step (bM HB.out) hb);(try clear hb);(try clear hk);(try clear az))|((with_reducible refine gate_dst (N := 30) rfl ?_);(try (refine gate_guard (by rfl) ?_;dsimp only));refine Kd.R_lit (Kd.int .i64) _ 3 ?hg (N := 30) ?hd (xs := ([3] : List Int)) (inner := [.int .i64 3]) (ok := fun _ => True) (okp := fun _ => True) ?hr ?hp (fun _ hk => hk) trivial (Below.refl _ _) (Nat.le_refl _) (by simp) ?_;(case hd => rfl);(case hg => rfl);(case hr => first|(go_simp;done)|(go_simp;rfl));(case hp => exact (Reps.one (show Kd.M (Kd.int .i64) _ _ _ 3 [.int .i64 3] from rfl) (Reps.none _ _)));intro fz fW bn hb hg_ hnew_;clear hg_ hnew_;(first|rw [← cS.out] at bn|(simp only [Int.reduceToNat] at bn;rw [← cS.out] at bn));replace ab := aK (Kd.N_elder' (nM ab.out) (Kd.R_base bn) hb);have ak := aK (Kd.R_lower (Kd.R_new' (Kd.R_new' (Kd.R_new' (Kd.R_new' (Kd.R_new' bn (Kd.R_lt (rM ac.out))) (Kd.R_lt (rM ad.out))) (Kd.R_lt (rM ae.out))) (Kd.R_lt (rM ag.out))) (Kd.R_lt (rM ah.out))) (below_size (bM HB.out)));replace ac := aK (Kd.R_elder' (rM ac.out) (Kd.R_base bn) hb);replace ad := aK (Kd.R_elder' (rM ad.out) (Kd.R_base bn) hb);replace ae := aK (Kd.R_elder' (rM ae.out) (Kd.R_base bn) hb);replace ag := aK (Kd.R_elder' (rM ag.out) (Kd.R_base bn) hb);replace ah := aK (Kd.R_elder' (rM ah.out) (Kd.R_base bn) hb);replace HB := aK (below_step (bM HB.out) hb);clear hb bn;obtain ⟨aI,aJ,er⟩ := Kd.R_slice ah.out;subst er;obtain ⟨aL,aM,es⟩ := Kd.R_slice ak.out;subst es)|(go_at_call 21;(with_reducible refine (r33_SameInts.calls k _ _ ao _ _ ay true _ ?ai ?aj ?a2 ?a3 fe.out).mono ?_);(case ai => exact cM (Kd.R_reads' ah.out).2.2);(case aj => exact (Kd.R_reads' ah.out).2.1);(case a2 => exact cM (Kd.R_reads' ak.out).2.2);(case a3 => exact (Kd.R_reads' ak.out).2.1);rintro e w' ⟨rfl,⟨nd,rfl⟩⟩)|(go_at_call 23;(with_reducible refine (manifest_Dead.calls k _ _ aa ap _ ?ai ?aj fg.out).mono ?_);(case ai => exact cM (Kd.N_reads' ab.out).2.2);(case aj => exact (Kd.N_reads' ab.out).2.1);rintro e fX ⟨fA,rfl,az,hb⟩;replace ab := aK (Kd.N_elder' (nM ab.out) (Kd.R_base az) hb);have an := aK (Kd.R_lower (Kd.R_new' (Kd.R_new' (Kd.R_new' (Kd.R_new' (Kd.R_new' (Kd.R_new' az (Kd.R_lt (rM ac.out))) (Kd.R_lt (rM ad.out))) (Kd.R_lt (rM ae.out))) (Kd.R_lt (rM ag.out))) (Kd.R_lt (rM ah.out))) (Kd.R_lt (rM ak.out))) (below_size (bM HB.out)));replace ac := aK (Kd.R_elder' (rM ac.out) (Kd.R_base az) hb);replace ad := aK (Kd.R_elder' (rM ad.out) (Kd.R_base az) hb);replace ae := aK (Kd.R_elder' (rM ae.out) (Kd.R_base az) hb);replace ag := aK (Kd.R_elder' (rM ag.out) (Kd.R_base az) hb);replace ah := aK (Kd.R_elder' (rM ah.out) (Kd.R_base az) hb);replace ak := aK (Kd.R_elder' (rM ak.out) (Kd.R_base az) hb);replace HB := aK (below_step (bM HB.out) hb);(try clear hb);(try clear hk);(try clear az);obtain ⟨aN,aO,et⟩ := Kd.R_slice an.out;subst et)|(go_at_call 12;refine calls_of_args (args' := #[.agg #[.int .i64 1,.int .i64 1,.int .i64 5,.slice none ([] : List Int).length 0,.slice none ([] : List Int).length 0,.slice none ([] : List ByteArray).length 0]]) (by first|with_reducible rfl|(simp only [List.length_nil];done)|(simp only [List.length_nil];with_reducible rfl)) ?_;(with_reducible refine (manifest_Encode.calls k 1 1 5 _ _ ([] : List Int) _ _ ([] : List Int) _ _ ([] : List ByteArray) bm _ ?ai ?aj ?a2 ?a3 ?dD ?dE fh.out).mono ?_);(case ai => exact Kd.C_nil _ _);(case aj => exact Nat.le_refl _);(case a2 => exact Kd.C_nil _ _);(case a3 => exact Nat.le_refl _);(case dD => exact Kd.C_nil _ _);(case dE => exact Nat.le_refl _);rintro e fB ⟨aP,rfl,az,hb⟩;replace ab := aK (Kd.N_elder' (nM ab.out) (Kd.R_base az) hb);replace ac := aK (Kd.R_below (rM ac.out) hb);replace ad := aK (Kd.R_below (rM ad.out) hb);replace ae := aK (Kd.R_below (rM ae.out) hb);replace ag := aK (Kd.R_below (rM ag.out) hb);replace ah := aK (Kd.R_below (rM ah.out) hb);replace ak := aK (Kd.R_below (rM ak.out) hb);replace an := aK (Kd.R_below (rM an.out) hb);have al := aK (Kd.R_lower az (below_size (bM HB.out)));replace HB := aK (below_step (bM HB.out) hb);(try clear hb);(try clear hk);(try clear az);have eX := own_string (P := Tryz.prog) Tryz.underlying31 Tryz.underlying5 Tryz.underlying9 (Kd.own_of_R al.out);have cJ : 0 ≤ (0 : Int) := (by omega);have cK : 0 < (aa.length : Int) := dA;obtain ⟨am,cr,cs,ct,cu,cv,cw,eu,bq,br,bs,a6,a7,a8,b8,b9,ca,cb,cc,cd⟩ := at_T30 (Kd.N_reads' ab.out).2.2 0 cJ cK;cases eu;obtain ⟨eY,dg,dh,bu⟩ := Kd.N_get ab.out z30 0 cJ (by first|exact cK|exact dA|(have e_ := (Kd.N_reads' ab.out).1;omega));obtain ⟨dP,dQ,dR,dS,dT,dU,rfl,bv,bx,bz,bB,bC,bD⟩ := k30_openF dh;have a9 := bu 3 _ rfl;rw [add_field _ _ 3 (by omega)] at a9;replace a9 := Option.some.inj (a9.symm.trans a6);injection a9 with hva_ hvn_ hvc_;rw [hva_] at bx;rw [hvc_] at bv;have ce := aK (show Kd.V (Kd.int .i64) 3 _ w.heap.size _ _ ((rd_T30 aa 0).f3) from Kd.V_mk bv bx);clear hva_ hvn_ hvc_ bx bv;have ba := bu 4 _ rfl;rw [add_field _ _ 4 (by omega)] at ba;replace ba := Option.some.inj (ba.symm.trans a7);injection ba with hva_ hvn_ hvc_;rw [hva_] at bB;rw [hvc_] at bz;have cf := aK (show Kd.V (Kd.int .i64) 3 _ w.heap.size _ _ ((rd_T30 aa 0).f4) from Kd.V_mk bz bB);clear hva_ hvn_ hvc_ bB bz;have bb := bu 5 _ rfl;rw [add_field _ _ 5 (by omega)] at bb;replace bb := Option.some.inj (bb.symm.trans a8);injection bb with hva_ hvn_ hvc_;rw [hva_] at bD;rw [hvc_] at bC;have cg := aK (show Kd.V Kd.string 9 _ w.heap.size _ _ ((rd_T30 aa 0).f5) from Kd.V_mk bC bD);clear hva_ hvn_ hvc_ bD bC;clear bu dg;have eZ : (0 < aa.length) = True := eq_true (by omega);(try rw [show ((0 : Int)).toNat = 0 from rfl] at bq);(try rw [show 0 * 6 = 0 from rfl] at bq);(try rw [Addr.add_zero'] at bq);(try rw [show ((0 : Int)).toNat = 0 from rfl] at br);(try rw [show 0 * 6 = 0 from rfl] at br);(try rw [Addr.add_zero'] at br);(try rw [show ((0 : Int)).toNat = 0 from rfl] at bs);(try rw [show 0 * 6 = 0 from rfl] at bs);(try rw [Addr.add_zero'] at bs);(try rw [show ((0 : Int)).toNat = 0 from rfl] at a6);(try rw [show 0 * 6 = 0 from rfl] at a6);(try rw [Addr.add_zero'] at a6);(try rw [show ((0 : Int)).toNat = 0 from rfl] at a7);(try rw [show 0 * 6 = 0 from rfl] at a7);(try rw [Addr.add_zero'] at a7);(try rw [show ((0 : Int)).toNat = 0 from rfl] at a8);(try rw [show 0 * 6 = 0 from rfl] at a8);(try rw [Addr.add_zero'] at a8);have dV := aK b9;have dW := aK b8;clear b9 b8;have dX := aK cb;have dY := aK ca;clear cb ca;have dZ := aK cd;have d0 := aK cc;clear cd cc;replace cJ := eq_true cJ;replace cK := eq_true cK)|((with_reducible refine gate_dst (N := 48) rfl ?_);(try (refine gate_guard (by rfl) ?_;dsimp only));refine Kd.N_lit k30 _ 30 ?hg (N' := 48) ?hd (xs := ([(⟨(rd_T30 aa 0).f0,(rd_T30 aa 0).f1,(rd_T30 aa 0).f2,(rd_T30 aa 0).f3,(rd_T30 aa 0).f4,(rd_T30 aa 0).f5⟩ : S30),(⟨2,1,1,([] : List Int),([] : List Int),([] : List ByteArray)⟩ : S30)] : List (S30))) (inner := [.int .i64 ((rd_T30 aa 0).f0),.int .i64 ((rd_T30 aa 0).f1),.int .i64 ((rd_T30 aa 0).f2),.slice cr ((rd_T30 aa 0).f3).length cs,.slice ct ((rd_T30 aa 0).f4).length cu,.slice cv ((rd_T30 aa 0).f5).length cw,.int .i64 2,.int .i64 1,.int .i64 1,.slice none 0 0,.slice none 0 0,.slice none 0 0]) (ok := (fun k_ => some k_ ≠ (.slice (some am) aa.length aq : Value).ownBlock ∧ some k_ ≠ (.slice aA av.length aB : Value).ownBlock ∧ some k_ ≠ (.slice aC aw.length aD : Value).ownBlock ∧ some k_ ≠ (.slice aE au.length aF : Value).ownBlock ∧ some k_ ≠ (.slice aG ax.length aH : Value).ownBlock ∧ some k_ ≠ (.slice aI ao.length aJ : Value).ownBlock ∧ some k_ ≠ (.slice aL ay.length aM : Value).ownBlock ∧ some k_ ≠ (.slice aN ap.length aO : Value).ownBlock ∧ some k_ ≠ (aP : Value).ownBlock)) (okp := (fun k_ => some k_ ≠ (.slice (some am) aa.length aq : Value).ownBlock ∧ some k_ ≠ (.slice aA av.length aB : Value).ownBlock ∧ some k_ ≠ (.slice aC aw.length aD : Value).ownBlock ∧ some k_ ≠ (.slice aE au.length aF : Value).ownBlock ∧ some k_ ≠ (.slice aG ax.length aH : Value).ownBlock ∧ some k_ ≠ (.slice aI ao.length aJ : Value).ownBlock ∧ some k_ ≠ (.slice aL ay.length aM : Value).ownBlock ∧ some k_ ≠ (.slice aN ap.length aO : Value).ownBlock ∧ some k_ ≠ (aP : Value).ownBlock)) ?hr ?hp (fun _ hk => hk) ((show ∀ k_,fB.heap.size ≤ k_ → (fun k_ => some k_ ≠ (.slice (some am) aa.length aq : Value).ownBlock ∧ some k_ ≠ (.slice aA av.length aB : Value).ownBlock ∧ some k_ ≠ (.slice aC aw.length aD : Value).ownBlock ∧ some k_ ≠ (.slice aE au.length aF : Value).ownBlock ∧ some k_ ≠ (.slice aG ax.length aH : Value).ownBlock ∧ some k_ ≠ (.slice aI ao.length aJ : Value).ownBlock ∧ some k_ ≠ (.slice aL ay.length aM : Value).ownBlock ∧ some k_ ≠ (.slice aN ap.length aO : Value).ownBlock ∧ some k_ ≠ (aP : Value).ownBlock) k_ from fun k_ hk => ⟨Kd.fresh' (Kd.N_lt (nM ab.out)) k_ hk,Kd.fresh' (Kd.R_lt (rM ac.out)) k_ hk,Kd.fresh' (Kd.R_lt (rM ad.out)) k_ hk,Kd.fresh' (Kd.R_lt (rM ae.out)) k_ hk,Kd.fresh' (Kd.R_lt (rM ag.out)) k_ hk,Kd.fresh' (Kd.R_lt (rM ah.out)) k_ hk,Kd.fresh' (Kd.R_lt (rM ak.out)) k_ hk,Kd.fresh' (Kd.R_lt (rM an.out)) k_ hk,Kd.fresh' (Kd.R_lt (rM al.out)) k_ hk⟩) _ (Nat.le_refl _)) (Below.refl _ _) (Nat.le_refl _) (by simp) ?_;(case hd => rfl);(case hg => rfl);(case hr => first|(go_simp;done)|(go_simp;rfl));(case hp => exact (Reps.c6 (show Kd.FK k30 _ _ (⟨(rd_T30 aa 0).f0,(rd_T30 aa 0).f1,(rd_T30 aa 0).f2,(rd_T30 aa 0).f3,(rd_T30 aa 0).f4,(rd_T30 aa 0).f5⟩ : S30) [.int .i64 ((rd_T30 aa 0).f0),.int .i64 ((rd_T30 aa 0).f1),.int .i64 ((rd_T30 aa 0).f2),.slice cr ((rd_T30 aa 0).f3).length cs,.slice ct ((rd_T30 aa 0).f4).length cu,.slice cv ((rd_T30 aa 0).f5).length cw] from (k30_mkF _ _ (⟨(rd_T30 aa 0).f0,(rd_T30 aa 0).f1,(rd_T30 aa 0).f2,(rd_T30 aa 0).f3,(rd_T30 aa 0).f4,(rd_T30 aa 0).f5⟩ : S30) (Kd.V_reads' (Kd.V_mono (ok' := (fun k_ => some k_ ≠ (.slice (some am) aa.length aq : Value).ownBlock ∧ some k_ ≠ (.slice aA av.length aB : Value).ownBlock ∧ some k_ ≠ (.slice aC aw.length aD : Value).ownBlock ∧ some k_ ≠ (.slice aE au.length aF : Value).ownBlock ∧ some k_ ≠ (.slice aG ax.length aH : Value).ownBlock ∧ some k_ ≠ (.slice aI ao.length aJ : Value).ownBlock ∧ some k_ ≠ (.slice aL ay.length aM : Value).ownBlock ∧ some k_ ≠ (.slice aN ap.length aO : Value).ownBlock ∧ some k_ ≠ (aP : Value).ownBlock)) (ce.out) (fun k_ hk => ⟨hk.2,⟨hk.1.1.1.1.1.1.1.1.2,⟨hk.1.1.1.1.1.1.1.2,⟨hk.1.1.1.1.1.1.2,⟨hk.1.1.1.1.1.2,⟨hk.1.1.1.1.2,⟨hk.1.1.1.2,⟨hk.1.1.2,hk.1.2⟩⟩⟩⟩⟩⟩⟩⟩))).2.1 (Kd.V_F (Kd.V_mono (ok' := (fun k_ => some k_ ≠ (.slice (some am) aa.length aq : Value).ownBlock ∧ some k_ ≠ (.slice aA av.length aB : Value).ownBlock ∧ some k_ ≠ (.slice aC aw.length aD : Value).ownBlock ∧ some k_ ≠ (.slice aE au.length aF : Value).ownBlock ∧ some k_ ≠ (.slice aG ax.length aH : Value).ownBlock ∧ some k_ ≠ (.slice aI ao.length aJ : Value).ownBlock ∧ some k_ ≠ (.slice aL ay.length aM : Value).ownBlock ∧ some k_ ≠ (.slice aN ap.length aO : Value).ownBlock ∧ some k_ ≠ (aP : Value).ownBlock)) (ce.out) (fun k_ hk => ⟨hk.2,⟨hk.1.1.1.1.1.1.1.1.2,⟨hk.1.1.1.1.1.1.1.2,⟨hk.1.1.1.1.1.1.2,⟨hk.1.1.1.1.1.2,⟨hk.1.1.1.1.2,⟨hk.1.1.1.2,⟨hk.1.1.2,hk.1.2⟩⟩⟩⟩⟩⟩⟩⟩))) (Kd.V_reads' (Kd.V_mono (ok' := (fun k_ => some k_ ≠ (.slice (some am) aa.length aq : Value).ownBlock ∧ some k_ ≠ (.slice aA av.length aB : Value).ownBlock ∧ some k_ ≠ (.slice aC aw.length aD : Value).ownBlock ∧ some k_ ≠ (.slice aE au.length aF : Value).ownBlock ∧ some k_ ≠ (.slice aG ax.length aH : Value).ownBlock ∧ some k_ ≠ (.slice aI ao.length aJ : Value).ownBlock ∧ some k_ ≠ (.slice aL ay.length aM : Value).ownBlock ∧ some k_ ≠ (.slice aN ap.length aO : Value).ownBlock ∧ some k_ ≠ (aP : Value).ownBlock)) (cf.out) (fun k_ hk => ⟨hk.2,⟨hk.1.1.1.1.1.1.1.1.2,⟨hk.1.1.1.1.1.1.1.2,⟨hk.1.1.1.1.1.1.2,⟨hk.1.1.1.1.1.2,⟨hk.1.1.1.1.2,⟨hk.1.1.1.2,⟨hk.1.1.2,hk.1.2⟩⟩⟩⟩⟩⟩⟩⟩))).2.1 (Kd.V_F (Kd.V_mono (ok' := (fun k_ => some k_ ≠ (.slice (some am) aa.length aq : Value).ownBlock ∧ some k_ ≠ (.slice aA av.length aB : Value).ownBlock ∧ some k_ ≠ (.slice aC aw.length aD : Value).ownBlock ∧ some k_ ≠ (.slice aE au.length aF : Value).ownBlock ∧ some k_ ≠ (.slice aG ax.length aH : Value).ownBlock ∧ some k_ ≠ (.slice aI ao.length aJ : Value).ownBlock ∧ some k_ ≠ (.slice aL ay.length aM : Value).ownBlock ∧ some k_ ≠ (.slice aN ap.length aO : Value).ownBlock ∧ some k_ ≠ (aP : Value).ownBlock)) (cf.out) (fun k_ hk => ⟨hk.2,⟨hk.1.1.1.1.1.1.1.1.2,⟨hk.1.1.1.1.1.1.1.2,⟨hk.1.1.1.1.1.1.2,⟨hk.1.1.1.1.1.2,⟨hk.1.1.1.1.2,⟨hk.1.1.1.2,⟨hk.1.1.2,hk.1.2⟩⟩⟩⟩⟩⟩⟩⟩))) (Kd.V_reads' (Kd.V_mono (ok' := (fun k_ => some k_ ≠ (.slice (some am) aa.length aq : Value).ownBlock ∧ some k_ ≠ (.slice aA av.length aB : Value).ownBlock ∧ some k_ ≠ (.slice aC aw.length aD : Value).ownBlock ∧ some k_ ≠ (.slice aE au.length aF : Value).ownBlock ∧ some k_ ≠ (.slice aG ax.length aH : Value).ownBlock ∧ some k_ ≠ (.slice aI ao.length aJ : Value).ownBlock ∧ some k_ ≠ (.slice aL ay.length aM : Value).ownBlock ∧ some k_ ≠ (.slice aN ap.length aO : Value).ownBlock ∧ some k_ ≠ (aP : Value).ownBlock)) (cg.out) (fun k_ hk => ⟨hk.2,⟨hk.1.1.1.1.1.1.1.1.2,⟨hk.1.1.1.1.1.1.1.2,⟨hk.1.1.1.1.1.1.2,⟨hk.1.1.1.1.1.2,⟨hk.1.1.1.1.2,⟨hk.1.1.1.2,⟨hk.1.1.2,hk.1.2⟩⟩⟩⟩⟩⟩⟩⟩))).2.1 (Kd.V_F (Kd.V_mono (ok' := (fun k_ => some k_ ≠ (.slice (some am) aa.length aq : Value).ownBlock ∧ some k_ ≠ (.slice aA av.length aB : Value).ownBlock ∧ some k_ ≠ (.slice aC aw.length aD : Value).ownBlock ∧ some k_ ≠ (.slice aE au.length aF : Value).ownBlock ∧ some k_ ≠ (.slice aG ax.length aH : Value).ownBlock ∧ some k_ ≠ (.slice aI ao.length aJ : Value).ownBlock ∧ some k_ ≠ (.slice aL ay.length aM : Value).ownBlock ∧ some k_ ≠ (.slice aN ap.length aO : Value).ownBlock ∧ some k_ ≠ (aP : Value).ownBlock)) (cg.out) (fun k_ hk => ⟨hk.2,⟨hk.1.1.1.1.1.1.1.1.2,⟨hk.1.1.1.1.1.1.1.2,⟨hk.1.1.1.1.1.1.2,⟨hk.1.1.1.1.1.2,⟨hk.1.1.1.1.2,⟨hk.1.1.1.2,⟨hk.1.1.2,hk.1.2⟩⟩⟩⟩⟩⟩⟩⟩))))) (Reps.c6 (show Kd.FK k30 _ _ (⟨2,1,1,([] : List Int),([] : List Int),([] : List ByteArray)⟩ : S30) [.int .i64 2,.int .i64 1,.int .i64 1,.slice none 0 0,.slice none 0 0,.slice none 0 0] from (k30_mkF _ _ (⟨2,1,1,([] : List Int),([] : List Int),([] : List ByteArray)⟩ : S30) (Nat.le_refl _) (Kd.F_nil _ _ _) (Nat.le_refl _) (Kd.F_nil _ _ _) (Nat.le_refl _) (Kd.F_nil _ _ _))) (Reps.none _ _))));intro fC fY cp hb hg_ hnew_;clear hg_ hnew_;(first|rw [← cT.out] at cp|(simp only [Int.reduceToNat] at cp;rw [← cT.out] at cp));replace ab := aK (Kd.N_elder' (nM ab.out) (Kd.N_base cp) hb);replace ac := aK (Kd.R_below (rM ac.out) hb);replace ad := aK (Kd.R_below (rM ad.out) hb);replace ae := aK (Kd.R_below (rM ae.out) hb);replace ag := aK (Kd.R_below (rM ag.out) hb);replace ah := aK (Kd.R_below (rM ah.out) hb);replace ak := aK (Kd.R_below (rM ak.out) hb);replace an := aK (Kd.R_below (rM an.out) hb);replace al := aK (Kd.R_below (rM al.out) hb);have ar := aK (Kd.N_lower cp (below_size (bM HB.out)));replace HB := aK (below_step (bM HB.out) hb);clear hb cp;obtain ⟨a0,a1,ev⟩ := Kd.N_slice ar.out;subst ev)|((with_reducible refine gate_callee (f := 8) rfl ?_);refine gL 49 Tryz.func8 #[.slice a0 aW.length a1] ?_;(with_reducible refine (manifest_Right.calls k _ _ aW aX _ ?ai ?aj dO.out).mono ?_);(case ai => exact cM (Kd.N_reads' ar.out).2.2);(case aj => exact (Kd.N_reads' ar.out).2.1);rintro e fZ ⟨rfl,hb⟩;refine ⟨_,rfl,?_⟩;replace ab := aK (Kd.N_below (nM ab.out) hb);replace ac := aK (Kd.R_below (rM ac.out) hb);replace ad := aK (Kd.R_below (rM ad.out) hb);replace ae := aK (Kd.R_below (rM ae.out) hb);replace ag := aK (Kd.R_below (rM ag.out) hb);replace ah := aK (Kd.R_below (rM ah.out) hb);replace ak := aK (Kd.R_below (rM ak.out) hb);replace an := aK (Kd.R_below (rM an.out) hb);replace al := aK (Kd.R_below (rM al.out) hb);replace ar := aK (Kd.N_below (nM ar.out) hb);replace HB := aK (below_step (bM HB.out) hb);(try clear hb);(try clear hk);have cL : 0 ≤ (0 : Int) := (by omega);have cN : 0 < (aa.length : Int) := dA;obtain ⟨dF,cx,cy,cz,cA,cB,cC,ew,bE,bF,bH,bc,bd,be,ch,ci,cj,ck,cl,cm⟩ := at_T30 (Kd.N_reads' ab.out).2.2 0 cL cN;obtain rfl : am = dF := (by injection ew);obtain ⟨e0,di,dj,bI⟩ := Kd.N_get ab.out z30 0 cL (by first|exact cN|exact dA|(have e_ := (Kd.N_reads' ab.out).1;omega));obtain ⟨d1,d2,d3,d4,d5,d6,rfl,bJ,bK,bL,bN,bO,bP⟩ := k30_openF dj;have bf := bI 3 _ rfl;rw [add_field _ _ 3 (by omega)] at bf;replace bf := Option.some.inj (bf.symm.trans bc);injection bf with hva_ hvn_ hvc_;rw [hva_] at bK;rw [hvc_] at bJ;have bg := aK (show Kd.V (Kd.int .i64) 3 _ w.heap.size _ _ ((rd_T30 aa 0).f3) from Kd.V_mk bJ bK);clear hva_ hvn_ hvc_ bK bJ;have bh := bI 4 _ rfl;rw [add_field _ _ 4 (by omega)] at bh;replace bh := Option.some.inj (bh.symm.trans bd);injection bh with hva_ hvn_ hvc_;rw [hva_] at bN;rw [hvc_] at bL;have bi := aK (show Kd.V (Kd.int .i64) 3 _ w.heap.size _ _ ((rd_T30 aa 0).f4) from Kd.V_mk bL bN);clear hva_ hvn_ hvc_ bN bL;have bj := bI 5 _ rfl;rw [add_field _ _ 5 (by omega)] at bj;replace bj := Option.some.inj (bj.symm.trans be);injection bj with hva_ hvn_ hvc_;rw [hva_] at bP;rw [hvc_] at bO;have bk := aK (show Kd.V Kd.string 9 _ w.heap.size _ _ ((rd_T30 aa 0).f5) from Kd.V_mk bO bP);clear hva_ hvn_ hvc_ bP bO;clear bI di;have e5 : (0 < aa.length) = True := eq_true (by omega);(try rw [show ((0 : Int)).toNat = 0 from rfl] at bE);(try rw [show 0 * 6 = 0 from rfl] at bE);(try rw [Addr.add_zero'] at bE);(try rw [show ((0 : Int)).toNat = 0 from rfl] at bF);(try rw [show 0 * 6 = 0 from rfl] at bF);(try rw [Addr.add_zero'] at bF);(try rw [show ((0 : Int)).toNat = 0 from rfl] at bH);(try rw [show 0 * 6 = 0 from rfl] at bH);(try rw [Addr.add_zero'] at bH);(try rw [show ((0 : Int)).toNat = 0 from rfl] at bc);(try rw [show 0 * 6 = 0 from rfl] at bc);(try rw [Addr.add_zero'] at bc);(try rw [show ((0 : Int)).toNat = 0 from rfl] at bd);(try rw [show 0 * 6 = 0 from rfl] at bd);(try rw [Addr.add_zero'] at bd);(try rw [show ((0 : Int)).toNat = 0 from rfl] at be);(try rw [show 0 * 6 = 0 from rfl] at be);(try rw [Addr.add_zero'] at be);have d7 := aK ci;have d8 := aK ch;clear ci ch;have d9 := aK ck;have ea := aK cj;clear ck cj;have eb := aK cm;have ec := aK cl;clear cm cl;replace cL := eq_true cL;replace cN := eq_true cN)|((with_reducible refine gate_dst (N := 53) rfl ?_);(try (refine gate_guard (by rfl) ?_;dsimp only));refine Kd.R_lit (Kd.int .i64) _ 3 ?hg (N := 53) ?hd (xs := ([4] : List Int)) (inner := [.int .i64 4]) (ok := fun _ => True) (okp := fun _ => True) ?hr ?hp (fun _ hk => hk) trivial (Below.refl _ _) (Nat.le_refl _) (by simp) ?_;(case hd => rfl);(case hg => rfl);(case hr => first|(go_simp;done)|(go_simp;rfl));(case hp => exact (Reps.one (show Kd.M (Kd.int .i64) _ _ _ 4 [.int .i64 4] from rfl) (Reps.none _ _)));intro fD fE aZ hb hg_ hnew_;clear hg_ hnew_;(first|rw [← cU.out] at aZ|(simp only [Int.reduceToNat] at aZ;rw [← cU.out] at aZ));replace ab := aK (Kd.N_elder' (nM ab.out) (Kd.R_base aZ) hb);replace al := aK (Kd.R_below (rM al.out) hb);replace ar := aK (Kd.N_elder' (nM ar.out) (Kd.R_base aZ) hb);replace bg := aK (Kd.V_elder' (vM bg.out) (Kd.R_base aZ) hb);replace bi := aK (Kd.V_elder' (vM bi.out) (Kd.R_base aZ) hb);replace bk := aK (Kd.V_elder' (vM bk.out) (Kd.R_base aZ) hb);have cD := aK (Kd.R_lower (Kd.R_new' (Kd.R_new' (Kd.R_new' (Kd.R_new' (Kd.R_new' (Kd.R_new' (Kd.R_new' aZ (Kd.R_lt (rM ac.out))) (Kd.R_lt (rM ad.out))) (Kd.R_lt (rM ae.out))) (Kd.R_lt (rM ag.out))) (Kd.R_lt (rM ah.out))) (Kd.R_lt (rM ak.out))) (Kd.R_lt (rM an.out))) (below_size (bM HB.out)));replace ac := aK (Kd.R_elder' (rM ac.out) (Kd.R_base aZ) hb);replace ad := aK (Kd.R_elder' (rM ad.out) (Kd.R_base aZ) hb);replace ae := aK (Kd.R_elder' (rM ae.out) (Kd.R_base aZ) hb);replace ag := aK (Kd.R_elder' (rM ag.out) (Kd.R_base aZ) hb);replace ah := aK (Kd.R_elder' (rM ah.out) (Kd.R_base aZ) hb);replace ak := aK (Kd.R_elder' (rM ak.out) (Kd.R_base aZ) hb);replace an := aK (Kd.R_elder' (rM an.out) (Kd.R_base aZ) hb);replace HB := aK (below_step (bM HB.out) hb);clear hb aZ;obtain ⟨dG,dH,ex⟩ := Kd.R_slice cD.out;subst ex)|((with_reducible refine gate_dst (N := 55) rfl ?_);(try (refine gate_guard (by rfl) ?_;dsimp only));refine Kd.N_lit k30 _ 30 ?hg (N' := 55) ?hd (xs := ([(⟨(rd_T30 aa 0).f0,(rd_T30 aa 0).f1,(rd_T30 aa 0).f2,(rd_T30 aa 0).f3,(rd_T30 aa 0).f4,(rd_T30 aa 0).f5⟩ : S30),(⟨2,3,2,([] : List Int),b1,([] : List ByteArray)⟩ : S30)] : List (S30))) (inner := [.int .i64 ((rd_T30 aa 0).f0),.int .i64 ((rd_T30 aa 0).f1),.int .i64 ((rd_T30 aa 0).f2),.slice cx ((rd_T30 aa 0).f3).length cy,.slice cz ((rd_T30 aa 0).f4).length cA,.slice cB ((rd_T30 aa 0).f5).length cC,.int .i64 2,.int .i64 3,.int .i64 2,.slice none 0 0,.slice dG b1.length dH,.slice none 0 0]) (ok := (fun k_ => some k_ ≠ (.slice (some am) aa.length aq : Value).ownBlock ∧ some k_ ≠ (.slice aA av.length aB : Value).ownBlock ∧ some k_ ≠ (.slice aC aw.length aD : Value).ownBlock ∧ some k_ ≠ (.slice aE au.length aF : Value).ownBlock ∧ some k_ ≠ (.slice aG ax.length aH : Value).ownBlock ∧ some k_ ≠ (.slice aI ao.length aJ : Value).ownBlock ∧ some k_ ≠ (.slice aL ay.length aM : Value).ownBlock ∧ some k_ ≠ (.slice aN ap.length aO : Value).ownBlock ∧ some k_ ≠ (aP : Value).ownBlock ∧ some k_ ≠ (.slice a0 aW.length a1 : Value).ownBlock)) (okp := (fun k_ => some k_ ≠ (.slice (some am) aa.length aq : Value).ownBlock ∧ some k_ ≠ (.slice aA av.length aB : Value).ownBlock ∧ some k_ ≠ (.slice aC aw.length aD : Value).ownBlock ∧ some k_ ≠ (.slice aE au.length aF : Value).ownBlock ∧ some k_ ≠ (.slice aG ax.length aH : Value).ownBlock ∧ some k_ ≠ (.slice aI ao.length aJ : Value).ownBlock ∧ some k_ ≠ (.slice aL ay.length aM : Value).ownBlock ∧ some k_ ≠ (.slice aN ap.length aO : Value).ownBlock ∧ some k_ ≠ (aP : Value).ownBlock ∧ some k_ ≠ (.slice a0 aW.length a1 : Value).ownBlock)) ?hr ?hp (fun _ hk => hk) ((show ∀ k_,fE.heap.size ≤ k_ → (fun k_ => some k_ ≠ (.slice (some am) aa.length aq : Value).ownBlock ∧ some k_ ≠ (.slice aA av.length aB : Value).ownBlock ∧ some k_ ≠ (.slice aC aw.length aD : Value).ownBlock ∧ some k_ ≠ (.slice aE au.length aF : Value).ownBlock ∧ some k_ ≠ (.slice aG ax.length aH : Value).ownBlock ∧ some k_ ≠ (.slice aI ao.length aJ : Value).ownBlock ∧ some k_ ≠ (.slice aL ay.length aM : Value).ownBlock ∧ some k_ ≠ (.slice aN ap.length aO : Value).ownBlock ∧ some k_ ≠ (aP : Value).ownBlock ∧ some k_ ≠ (.slice a0 aW.length a1 : Value).ownBlock) k_ from fun k_ hk => ⟨Kd.fresh' (Kd.N_lt (nM ab.out)) k_ hk,Kd.fresh' (Kd.R_lt (rM ac.out)) k_ hk,Kd.fresh' (Kd.R_lt (rM ad.out)) k_ hk,Kd.fresh' (Kd.R_lt (rM ae.out)) k_ hk,Kd.fresh' (Kd.R_lt (rM ag.out)) k_ hk,Kd.fresh' (Kd.R_lt (rM ah.out)) k_ hk,Kd.fresh' (Kd.R_lt (rM ak.out)) k_ hk,Kd.fresh' (Kd.R_lt (rM an.out)) k_ hk,Kd.fresh' (Kd.R_lt (rM al.out)) k_ hk,Kd.fresh' (Kd.N_lt (nM ar.out)) k_ hk⟩) _ (Nat.le_refl _)) (Below.refl _ _) (Nat.le_refl _) (by simp) ?_;(case hd => rfl);(case hg => rfl);(case hr => first|(go_simp;done)|(go_simp;rfl));(case hp => exact (Reps.c6 (show Kd.FK k30 _ _ (⟨(rd_T30 aa 0).f0,(rd_T30 aa 0).f1,(rd_T30 aa 0).f2,(rd_T30 aa 0).f3,(rd_T30 aa 0).f4,(rd_T30 aa 0).f5⟩ : S30) [.int .i64 ((rd_T30 aa 0).f0),.int .i64 ((rd_T30 aa 0).f1),.int .i64 ((rd_T30 aa 0).f2),.slice cx ((rd_T30 aa 0).f3).length cy,.slice cz ((rd_T30 aa 0).f4).length cA,.slice cB ((rd_T30 aa 0).f5).length cC] from (k30_mkF _ _ (⟨(rd_T30 aa 0).f0,(rd_T30 aa 0).f1,(rd_T30 aa 0).f2,(rd_T30 aa 0).f3,(rd_T30 aa 0).f4,(rd_T30 aa 0).f5⟩ : S30) (Kd.V_reads' (Kd.V_mono (ok' := (fun k_ => some k_ ≠ (.slice (some am) aa.length aq : Value).ownBlock ∧ some k_ ≠ (.slice aA av.length aB : Value).ownBlock ∧ some k_ ≠ (.slice aC aw.length aD : Value).ownBlock ∧ some k_ ≠ (.slice aE au.length aF : Value).ownBlock ∧ some k_ ≠ (.slice aG ax.length aH : Value).ownBlock ∧ some k_ ≠ (.slice aI ao.length aJ : Value).ownBlock ∧ some k_ ≠ (.slice aL ay.length aM : Value).ownBlock ∧ some k_ ≠ (.slice aN ap.length aO : Value).ownBlock ∧ some k_ ≠ (aP : Value).ownBlock ∧ some k_ ≠ (.slice a0 aW.length a1 : Value).ownBlock)) (bg.out) (fun k_ hk => ⟨hk.1.2,⟨hk.1.1.1.1.1.1.1.1.1.1.2,⟨hk.1.1.1.1.1.1.1.1.1.2,⟨hk.1.1.1.1.1.1.1.1.2,⟨hk.1.1.1.1.1.1.1.2,⟨hk.1.1.1.1.1.1.2,⟨hk.1.1.1.1.1.2,⟨hk.1.1.1.1.2,⟨hk.1.1.1.2,hk.1.1.2⟩⟩⟩⟩⟩⟩⟩⟩⟩))).2.1 (Kd.V_F (Kd.V_mono (ok' := (fun k_ => some k_ ≠ (.slice (some am) aa.length aq : Value).ownBlock ∧ some k_ ≠ (.slice aA av.length aB : Value).ownBlock ∧ some k_ ≠ (.slice aC aw.length aD : Value).ownBlock ∧ some k_ ≠ (.slice aE au.length aF : Value).ownBlock ∧ some k_ ≠ (.slice aG ax.length aH : Value).ownBlock ∧ some k_ ≠ (.slice aI ao.length aJ : Value).ownBlock ∧ some k_ ≠ (.slice aL ay.length aM : Value).ownBlock ∧ some k_ ≠ (.slice aN ap.length aO : Value).ownBlock ∧ some k_ ≠ (aP : Value).ownBlock ∧ some k_ ≠ (.slice a0 aW.length a1 : Value).ownBlock)) (bg.out) (fun k_ hk => ⟨hk.1.2,⟨hk.1.1.1.1.1.1.1.1.1.1.2,⟨hk.1.1.1.1.1.1.1.1.1.2,⟨hk.1.1.1.1.1.1.1.1.2,⟨hk.1.1.1.1.1.1.1.2,⟨hk.1.1.1.1.1.1.2,⟨hk.1.1.1.1.1.2,⟨hk.1.1.1.1.2,⟨hk.1.1.1.2,hk.1.1.2⟩⟩⟩⟩⟩⟩⟩⟩⟩))) (Kd.V_reads' (Kd.V_mono (ok' := (fun k_ => some k_ ≠ (.slice (some am) aa.length aq : Value).ownBlock ∧ some k_ ≠ (.slice aA av.length aB : Value).ownBlock ∧ some k_ ≠ (.slice aC aw.length aD : Value).ownBlock ∧ some k_ ≠ (.slice aE au.length aF : Value).ownBlock ∧ some k_ ≠ (.slice aG ax.length aH : Value).ownBlock ∧ some k_ ≠ (.slice aI ao.length aJ : Value).ownBlock ∧ some k_ ≠ (.slice aL ay.length aM : Value).ownBlock ∧ some k_ ≠ (.slice aN ap.length aO : Value).ownBlock ∧ some k_ ≠ (aP : Value).ownBlock ∧ some k_ ≠ (.slice a0 aW.length a1 : Value).ownBlock)) (bi.out) (fun k_ hk => ⟨hk.1.2,⟨hk.1.1.1.1.1.1.1.1.1.1.2,⟨hk.1.1.1.1.1.1.1.1.1.2,⟨hk.1.1.1.1.1.1.1.1.2,⟨hk.1.1.1.1.1.1.1.2,⟨hk.1.1.1.1.1.1.2,⟨hk.1.1.1.1.1.2,⟨hk.1.1.1.1.2,⟨hk.1.1.1.2,hk.1.1.2⟩⟩⟩⟩⟩⟩⟩⟩⟩))).2.1 (Kd.V_F (Kd.V_mono (ok' := (fun k_ => some k_ ≠ (.slice (some am) aa.length aq : Value).ownBlock ∧ some k_ ≠ (.slice aA av.length aB : Value).ownBlock ∧ some k_ ≠ (.slice aC aw.length aD : Value).ownBlock ∧ some k_ ≠ (.slice aE au.length aF : Value).ownBlock ∧ some k_ ≠ (.slice aG ax.length aH : Value).ownBlock ∧ some k_ ≠ (.slice aI ao.length aJ : Value).ownBlock ∧ some k_ ≠ (.slice aL ay.length aM : Value).ownBlock ∧ some k_ ≠ (.slice aN ap.length aO : Value).ownBlock ∧ some k_ ≠ (aP : Value).ownBlock ∧ some k_ ≠ (.slice a0 aW.length a1 : Value).ownBlock)) (bi.out) (fun k_ hk => ⟨hk.1.2,⟨hk.1.1.1.1.1.1.1.1.1.1.2,⟨hk.1.1.1.1.1.1.1.1.1.2,⟨hk.1.1.1.1.1.1.1.1.2,⟨hk.1.1.1.1.1.1.1.2,⟨hk.1.1.1.1.1.1.2,⟨hk.1.1.1.1.1.2,⟨hk.1.1.1.1.2,⟨hk.1.1.1.2,hk.1.1.2⟩⟩⟩⟩⟩⟩⟩⟩⟩))) (Kd.V_reads' (Kd.V_mono (ok' := (fun k_ => some k_ ≠ (.slice (some am) aa.length aq : Value).ownBlock ∧ some k_ ≠ (.slice aA av.length aB : Value).ownBlock ∧ some k_ ≠ (.slice aC aw.length aD : Value).ownBlock ∧ some k_ ≠ (.slice aE au.length aF : Value).ownBlock ∧ some k_ ≠ (.slice aG ax.length aH : Value).ownBlock ∧ some k_ ≠ (.slice aI ao.length aJ : Value).ownBlock ∧ some k_ ≠ (.slice aL ay.length aM : Value).ownBlock ∧ some k_ ≠ (.slice aN ap.length aO : Value).ownBlock ∧ some k_ ≠ (aP : Value).ownBlock ∧ some k_ ≠ (.slice a0 aW.length a1 : Value).ownBlock)) (bk.out) (fun k_ hk => ⟨hk.1.2,⟨hk.1.1.1.1.1.1.1.1.1.1.2,⟨hk.1.1.1.1.1.1.1.1.1.2,⟨hk.1.1.1.1.1.1.1.1.2,⟨hk.1.1.1.1.1.1.1.2,⟨hk.1.1.1.1.1.1.2,⟨hk.1.1.1.1.1.2,⟨hk.1.1.1.1.2,⟨hk.1.1.1.2,hk.1.1.2⟩⟩⟩⟩⟩⟩⟩⟩⟩))).2.1 (Kd.V_F (Kd.V_mono (ok' := (fun k_ => some k_ ≠ (.slice (some am) aa.length aq : Value).ownBlock ∧ some k_ ≠ (.slice aA av.length aB : Value).ownBlock ∧ some k_ ≠ (.slice aC aw.length aD : Value).ownBlock ∧ some k_ ≠ (.slice aE au.length aF : Value).ownBlock ∧ some k_ ≠ (.slice aG ax.length aH : Value).ownBlock ∧ some k_ ≠ (.slice aI ao.length aJ : Value).ownBlock ∧ some k_ ≠ (.slice aL ay.length aM : Value).ownBlock ∧ some k_ ≠ (.slice aN ap.length aO : Value).ownBlock ∧ some k_ ≠ (aP : Value).ownBlock ∧ some k_ ≠ (.slice a0 aW.length a1 : Value).ownBlock)) (bk.out) (fun k_ hk => ⟨hk.1.2,⟨hk.1.1.1.1.1.1.1.1.1.1.2,⟨hk.1.1.1.1.1.1.1.1.1.2,⟨hk.1.1.1.1.1.1.1.1.2,⟨hk.1.1.1.1.1.1.1.2,⟨hk.1.1.1.1.1.1.2,⟨hk.1.1.1.1.1.2,⟨hk.1.1.1.1.2,⟨hk.1.1.1.2,hk.1.1.2⟩⟩⟩⟩⟩⟩⟩⟩⟩))))) (Reps.c6 (show Kd.FK k30 _ _ (⟨2,3,2,([] : List Int),b1,([] : List ByteArray)⟩ : S30) [.int .i64 2,.int .i64 3,.int .i64 2,.slice none 0 0,.slice dG b1.length dH,.slice none 0 0] from (k30_mkF _ _ (⟨2,3,2,([] : List Int),b1,([] : List ByteArray)⟩ : S30) (Nat.le_refl _) (Kd.F_nil _ _ _) (Kd.R_reads' (Kd.R_mono (ok' := (fun k_ => some k_ ≠ (.slice (some am) aa.length aq : Value).ownBlock ∧ some k_ ≠ (.slice aA av.length aB : Value).ownBlock ∧ some k_ ≠ (.slice aC aw.length aD : Value).ownBlock ∧ some k_ ≠ (.slice aE au.length aF : Value).ownBlock ∧ some k_ ≠ (.slice aG ax.length aH : Value).ownBlock ∧ some k_ ≠ (.slice aI ao.length aJ : Value).ownBlock ∧ some k_ ≠ (.slice aL ay.length aM : Value).ownBlock ∧ some k_ ≠ (.slice aN ap.length aO : Value).ownBlock ∧ some k_ ≠ (aP : Value).ownBlock ∧ some k_ ≠ (.slice a0 aW.length a1 : Value).ownBlock)) (Kd.R_apart' (Kd.R_apart' (Kd.R_apart' (cD.out) (Kd.N_typed ab.out) (by decide)) (Kd.R_typed al.out) (by decide)) (Kd.N_typed ar.out) (by decide)) (fun k_ hk => ⟨hk.1.1.2,⟨hk.1.1.1.1.1.1.1.1.1.2,⟨hk.1.1.1.1.1.1.1.1.2,⟨hk.1.1.1.1.1.1.1.2,⟨hk.1.1.1.1.1.1.2,⟨hk.1.1.1.1.1.2,⟨hk.1.1.1.1.2,⟨hk.1.1.1.2,⟨hk.1.2,hk.2⟩⟩⟩⟩⟩⟩⟩⟩⟩))).2.1 (Kd.R_F (Kd.R_mono (ok' := (fun k_ => some k_ ≠ (.slice (some am) aa.length aq : Value).ownBlock ∧ some k_ ≠ (.slice aA av.length aB : Value).ownBlock ∧ some k_ ≠ (.slice aC aw.length aD : Value).ownBlock ∧ some k_ ≠ (.slice aE au.length aF : Value).ownBlock ∧ some k_ ≠ (.slice aG ax.length aH : Value).ownBlock ∧ some k_ ≠ (.slice aI ao.length aJ : Value).ownBlock ∧ some k_ ≠ (.slice aL ay.length aM : Value).ownBlock ∧ some k_ ≠ (.slice aN ap.length aO : Value).ownBlock ∧ some k_ ≠ (aP : Value).ownBlock ∧ some k_ ≠ (.slice a0 aW.length a1 : Value).ownBlock)) (Kd.R_apart' (Kd.R_apart' (Kd.R_apart' (cD.out) (Kd.N_typed ab.out) (by decide)) (Kd.R_typed al.out) (by decide)) (Kd.N_typed ar.out) (by decide)) (fun k_ hk => ⟨hk.1.1.2,⟨hk.1.1.1.1.1.1.1.1.1.2,⟨hk.1.1.1.1.1.1.1.1.2,⟨hk.1.1.1.1.1.1.1.2,⟨hk.1.1.1.1.1.1.2,⟨hk.1.1.1.1.1.2,⟨hk.1.1.1.1.2,⟨hk.1.1.1.2,⟨hk.1.2,hk.2⟩⟩⟩⟩⟩⟩⟩⟩⟩))) (Nat.le_refl _) (Kd.F_nil _ _ _))) (Reps.none _ _))));intro fF f6 b5 hb hg_ hnew_;clear hg_ hnew_;(first|rw [← cV.out] at b5|(simp only [Int.reduceToNat] at b5;rw [← cV.out] at b5));replace ab := aK (Kd.N_elder' (nM ab.out) (Kd.N_base b5) hb);replace ac := aK (Kd.R_below (rM ac.out) hb);replace ad := aK (Kd.R_below (rM ad.out) hb);replace ae := aK (Kd.R_below (rM ae.out) hb);replace ag := aK (Kd.R_below (rM ag.out) hb);replace ah := aK (Kd.R_below (rM ah.out) hb);replace ak := aK (Kd.R_below (rM ak.out) hb);replace an := aK (Kd.R_below (rM an.out) hb);replace al := aK (Kd.R_below (rM al.out) hb);replace ar := aK (Kd.N_elder' (nM ar.out) (Kd.N_base b5) hb);have aU := aK (Kd.N_lower b5 (below_size (bM HB.out)));replace HB := aK (below_step (bM HB.out) hb);clear hb b5;obtain ⟨cE,cF,ey⟩ := Kd.N_slice aU.out;subst ey)|((with_reducible refine gate_callee (f := 8) rfl ?_);refine gL 56 Tryz.func8 #[.slice cE b2.length cF] ?_;(with_reducible refine (manifest_Right.calls k _ _ b2 aV _ ?ai ?aj fi.out).mono ?_);(case ai => exact cM (Kd.N_reads' aU.out).2.2);(case aj => exact (Kd.N_reads' aU.out).2.1);rintro e fG ⟨rfl,hb⟩;refine ⟨_,rfl,?_⟩;replace ab := aK (Kd.N_below (nM ab.out) hb);replace ac := aK (Kd.R_below (rM ac.out) hb);replace ad := aK (Kd.R_below (rM ad.out) hb);replace ae := aK (Kd.R_below (rM ae.out) hb);replace ag := aK (Kd.R_below (rM ag.out) hb);replace ah := aK (Kd.R_below (rM ah.out) hb);replace ak := aK (Kd.R_below (rM ak.out) hb);replace an := aK (Kd.R_below (rM an.out) hb);replace al := aK (Kd.R_below (rM al.out) hb);replace ar := aK (Kd.N_below (nM ar.out) hb);replace aU := aK (Kd.N_below (nM aU.out) hb);replace HB := aK (below_step (bM HB.out) hb);(try clear hb);(try clear hk))|((with_reducible refine gate_dst (N := 58) rfl ?_);(try (refine gate_guard (by rfl) ?_;dsimp only));refine Kd.N_lit k30 _ 30 ?hg (N' := 58) ?hd (xs := ([(⟨1,2,0,([] : List Int),([] : List Int),([] : List ByteArray)⟩ : S30)] : List (S30))) (inner := [.int .i64 1,.int .i64 2,.int .i64 0,.slice none 0 0,.slice none 0 0,.slice none 0 0]) (ok := (fun k_ => some k_ ≠ (.slice (some am) aa.length aq : Value).ownBlock ∧ some k_ ≠ (.slice aA av.length aB : Value).ownBlock ∧ some k_ ≠ (.slice aC aw.length aD : Value).ownBlock ∧ some k_ ≠ (.slice aE au.length aF : Value).ownBlock ∧ some k_ ≠ (.slice aG ax.length aH : Value).ownBlock ∧ some k_ ≠ (.slice aI ao.length aJ : Value).ownBlock ∧ some k_ ≠ (.slice aL ay.length aM : Value).ownBlock ∧ some k_ ≠ (.slice aN ap.length aO : Value).ownBlock ∧ some k_ ≠ (aP : Value).ownBlock ∧ some k_ ≠ (.slice a0 aW.length a1 : Value).ownBlock ∧ some k_ ≠ (.slice cE b2.length cF : Value).ownBlock)) (okp := (fun k_ => some k_ ≠ (.slice (some am) aa.length aq : Value).ownBlock ∧ some k_ ≠ (.slice aA av.length aB : Value).ownBlock ∧ some k_ ≠ (.slice aC aw.length aD : Value).ownBlock ∧ some k_ ≠ (.slice aE au.length aF : Value).ownBlock ∧ some k_ ≠ (.slice aG ax.length aH : Value).ownBlock ∧ some k_ ≠ (.slice aI ao.length aJ : Value).ownBlock ∧ some k_ ≠ (.slice aL ay.length aM : Value).ownBlock ∧ some k_ ≠ (.slice aN ap.length aO : Value).ownBlock ∧ some k_ ≠ (aP : Value).ownBlock ∧ some k_ ≠ (.slice a0 aW.length a1 : Value).ownBlock ∧ some k_ ≠ (.slice cE b2.length cF : Value).ownBlock)) ?hr ?hp (fun _ hk => hk) ((show ∀ k_,fG.heap.size ≤ k_ → (fun k_ => some k_ ≠ (.slice (some am) aa.length aq : Value).ownBlock ∧ some k_ ≠ (.slice aA av.length aB : Value).ownBlock ∧ some k_ ≠ (.slice aC aw.length aD : Value).ownBlock ∧ some k_ ≠ (.slice aE au.length aF : Value).ownBlock ∧ some k_ ≠ (.slice aG ax.length aH : Value).ownBlock ∧ some k_ ≠ (.slice aI ao.length aJ : Value).ownBlock ∧ some k_ ≠ (.slice aL ay.length aM : Value).ownBlock ∧ some k_ ≠ (.slice aN ap.length aO : Value).ownBlock ∧ some k_ ≠ (aP : Value).ownBlock ∧ some k_ ≠ (.slice a0 aW.length a1 : Value).ownBlock ∧ some k_ ≠ (.slice cE b2.length cF : Value).ownBlock) k_ from fun k_ hk => ⟨Kd.fresh' (Kd.N_lt (nM ab.out)) k_ hk,Kd.fresh' (Kd.R_lt (rM ac.out)) k_ hk,Kd.fresh' (Kd.R_lt (rM ad.out)) k_ hk,Kd.fresh' (Kd.R_lt (rM ae.out)) k_ hk,Kd.fresh' (Kd.R_lt (rM ag.out)) k_ hk,Kd.fresh' (Kd.R_lt (rM ah.out)) k_ hk,Kd.fresh' (Kd.R_lt (rM ak.out)) k_ hk,Kd.fresh' (Kd.R_lt (rM an.out)) k_ hk,Kd.fresh' (Kd.R_lt (rM al.out)) k_ hk,Kd.fresh' (Kd.N_lt (nM ar.out)) k_ hk,Kd.fresh' (Kd.N_lt (nM aU.out)) k_ hk⟩) _ (Nat.le_refl _)) (Below.refl _ _) (Nat.le_refl _) (by simp) ?_;(case hd => rfl);(case hg => rfl);(case hr => first|(go_simp;done)|(go_simp;rfl));(case hp => exact (Reps.c6 (show Kd.FK k30 _ _ (⟨1,2,0,([] : List Int),([] : List Int),([] : List ByteArray)⟩ : S30) [.int .i64 1,.int .i64 2,.int .i64 0,.slice none 0 0,.slice none 0 0,.slice none 0 0] from (k30_mkF _ _ (⟨1,2,0,([] : List Int),([] : List Int),([] : List ByteArray)⟩ : S30) (Nat.le_refl _) (Kd.F_nil _ _ _) (Nat.le_refl _) (Kd.F_nil _ _ _) (Nat.le_refl _) (Kd.F_nil _ _ _))) (Reps.none _ _)));intro fH f7 b0 hb hg_ hnew_;clear hg_ hnew_;(first|rw [← cW.out] at b0|(simp only [Int.reduceToNat] at b0;rw [← cW.out] at b0));replace ab := aK (Kd.N_elder' (nM ab.out) (Kd.N_base b0) hb);replace ac := aK (Kd.R_below (rM ac.out) hb);replace ad := aK (Kd.R_below (rM ad.out) hb);replace ae := aK (Kd.R_below (rM ae.out) hb);replace ag := aK (Kd.R_below (rM ag.out) hb);replace ah := aK (Kd.R_below (rM ah.out) hb);replace ak := aK (Kd.R_below (rM ak.out) hb);replace an := aK (Kd.R_below (rM an.out) hb);replace al := aK (Kd.R_below (rM al.out) hb);replace ar := aK (Kd.N_elder' (nM ar.out) (Kd.N_base b0) hb);replace aU := aK (Kd.N_elder' (nM aU.out) (Kd.N_base b0) hb);have a5 := aK (Kd.N_lower b0 (below_size (bM HB.out)));replace HB := aK (below_step (bM HB.out) hb);clear hb b0;obtain ⟨dI,dJ,ez⟩ := Kd.N_slice a5.out;subst ez)|((with_reducible refine gate_callee (f := 8) rfl ?_);refine gL 59 Tryz.func8 #[.slice dI cI.length dJ] ?_;(with_reducible refine (manifest_Right.calls k _ _ cI aS _ ?ai ?aj fj.out).mono ?_);(case ai => exact cM (Kd.N_reads' a5.out).2.2);(case aj => exact (Kd.N_reads' a5.out).2.1);rintro e f8 ⟨rfl,hb⟩;refine ⟨_,rfl,?_⟩;replace ab := aK (Kd.N_below (nM ab.out) hb);replace ac := aK (Kd.R_below (rM ac.out) hb);replace ad := aK (Kd.R_below (rM ad.out) hb);replace ae := aK (Kd.R_below (rM ae.out) hb);replace ag := aK (Kd.R_below (rM ag.out) hb);replace ah := aK (Kd.R_below (rM ah.out) hb);replace ak := aK (Kd.R_below (rM ak.out) hb);replace an := aK (Kd.R_below (rM an.out) hb);replace al := aK (Kd.R_below (rM al.out) hb);replace ar := aK (Kd.N_below (nM ar.out) hb);replace aU := aK (Kd.N_below (nM aU.out) hb);replace a5 := aK (Kd.N_below (nM a5.out) hb);replace HB := aK (below_step (bM HB.out) hb);(try clear hb);(try clear hk))|((with_reducible refine gate_callee (f := 17) rfl ?_);refine gL 62 Tryz.func17 #[.slice (some am) aa.length aq] ?_;(with_reducible refine (manifest_Write.calls k _ _ aa aQ _ ?ai ?aj fk.out).mono ?_);(case ai => exact cM (Kd.N_reads' ab.out).2.2);(case aj => exact (Kd.N_reads' ab.out).2.1);rintro e f9 ⟨fI,rfl,az,hb⟩;refine ⟨_,rfl,?_⟩;replace ab := aK (Kd.N_elder' (nM ab.out) (Kd.R_base az) hb);replace ac := aK (Kd.R_below (rM ac.out) hb);replace ad := aK (Kd.R_below (rM ad.out) hb);replace ae := aK (Kd.R_below (rM ae.out) hb);replace ag := aK (Kd.R_below (rM ag.out) hb);replace ah := aK (Kd.R_below (rM ah.out) hb);replace ak := aK (Kd.R_below (rM ak.out) hb);replace an := aK (Kd.R_below (rM an.out) hb);replace ar := aK (Kd.N_elder' (nM ar.out) (Kd.R_base az) hb);replace aU := aK (Kd.N_elder' (nM aU.out) (Kd.R_base az) hb);replace a5 := aK (Kd.N_elder' (nM a5.out) (Kd.R_base az) hb);have a4 := aK (Kd.R_lower (Kd.R_new' az (Kd.R_lt (rM al.out))) (below_size (bM HB.out)));replace al := aK (Kd.R_elder' (rM al.out) (Kd.R_base az) hb);replace HB := aK (below_step (bM HB.out) hb);(try clear hb);(try clear hk);(try clear az);obtain ⟨dK,dL,eA⟩ := Kd.R_slice a4.out;subst eA)|((with_reducible refine gate_callee (f := 15) rfl ?_);refine gL 63 Tryz.func15 #[.slice dK aQ.length dL] ?_;(with_reducible refine (manifest_Recover.calls k _ _ aQ c1 da _ ?ai ?aj fl.out).mono ?_);(case ai => exact cM (Kd.R_reads' a4.out).2.2);(case aj => exact (Kd.R_reads' a4.out).2.1);rintro e ga ⟨fJ,rfl,az,hb⟩;refine ⟨_,rfl,?_⟩;have cG := aK (Kd.N_lower (Kd.N_mono (ok' := fun k_ => some k_ ≠ (.slice (some am) aa.length aq : Value).ownBlock ∧ some k_ ≠ (.slice aA av.length aB : Value).ownBlock ∧ some k_ ≠ (.slice aC aw.length aD : Value).ownBlock ∧ some k_ ≠ (.slice aE au.length aF : Value).ownBlock ∧ some k_ ≠ (.slice aG ax.length aH : Value).ownBlock ∧ some k_ ≠ (.slice aI ao.length aJ : Value).ownBlock ∧ some k_ ≠ (.slice aL ay.length aM : Value).ownBlock ∧ some k_ ≠ (.slice aN ap.length aO : Value).ownBlock ∧ some k_ ≠ (aP : Value).ownBlock ∧ some k_ ≠ (.slice a0 aW.length a1 : Value).ownBlock ∧ some k_ ≠ (.slice cE b2.length cF : Value).ownBlock ∧ some k_ ≠ (.slice dI cI.length dJ : Value).ownBlock ∧ some k_ ≠ (.slice dK aQ.length dL : Value).ownBlock) (Kd.S_N (Kd.S_bound az)) (fun k_ hk_ => ⟨(Kd.fresh' (Kd.N_lt (nM ab.out)) k_ hk_.2.1),(Kd.fresh' (Kd.R_lt (rM ac.out)) k_ hk_.2.1),(Kd.fresh' (Kd.R_lt (rM ad.out)) k_ hk_.2.1),(Kd.fresh' (Kd.R_lt (rM ae.out)) k_ hk_.2.1),(Kd.fresh' (Kd.R_lt (rM ag.out)) k_ hk_.2.1),(Kd.fresh' (Kd.R_lt (rM ah.out)) k_ hk_.2.1),(Kd.fresh' (Kd.R_lt (rM ak.out)) k_ hk_.2.1),(Kd.fresh' (Kd.R_lt (rM an.out)) k_ hk_.2.1),(Kd.fresh' (Kd.R_lt (rM al.out)) k_ hk_.2.1),(Kd.fresh' (Kd.N_lt (nM ar.out)) k_ hk_.2.1),(Kd.fresh' (Kd.N_lt (nM aU.out)) k_ hk_.2.1),(Kd.fresh' (Kd.N_lt (nM a5.out)) k_ hk_.2.1),(Kd.fresh' (Kd.R_lt (rM a4.out)) k_ hk_.2.1)⟩)) (below_size (bM HB.out)));replace ab := aK (Kd.N_elder' (nM ab.out) (Kd.N_base (Kd.S_N (Kd.S_bound az))) hb);replace al := aK (Kd.R_below (rM al.out) hb);replace a4 := aK (Kd.R_below (rM a4.out) hb);replace HB := aK (below_step (bM HB.out) hb);(try clear hb);(try clear hk);(try clear az);obtain ⟨fK,fL,eB⟩ := Kd.N_slice cG.out;subst eB)|(go_at_call 19;(with_reducible refine (r33_SameAll.calls k _ _ c1 _ _ aa true _ ?ai ?aj ?a2 ?a3 fm.out).mono ?_);(case ai => exact cM (Kd.N_reads' cG.out).2.2);(case aj => exact (Kd.N_reads' cG.out).2.1);(case a2 => exact cM (Kd.N_reads' ab.out).2.2);(case a3 => exact (Kd.N_reads' ab.out).2.1);rintro e gb ⟨rfl,hb⟩;replace ab := aK (Kd.N_below (nM ab.out) hb);replace al := aK (Kd.R_below (rM al.out) hb);replace a4 := aK (Kd.R_below (rM a4.out) hb);replace HB := aK (below_step (bM HB.out) hb);(try clear hb);(try clear hk))|(go_at_call 17;(with_reducible refine (manifest_Write.calls k _ _ aa aR _ ?ai ?aj fo.out).mono ?_);(case ai => exact cM (Kd.N_reads' ab.out).2.2);(case aj => exact (Kd.N_reads' ab.out).2.1);rintro e gc ⟨fM,rfl,az,hb⟩;have dM := aK (Kd.R_lower (Kd.R_new' (Kd.R_new' az (Kd.R_lt (rM al.out))) (Kd.R_lt (rM a4.out))) (below_size (bM HB.out)));replace HB := aK (below_step (bM HB.out) hb);(try clear hb);(try clear hk);(try clear az);obtain ⟨fN,fO,eC⟩ := Kd.R_slice dM.out;subst eC))
  go_ret
  exact ⟨by first|rfl|(simp [errW_none,errW_some] <;> rfl)|(simp [*,errW_none,errW_some] <;> rfl),bM HB.out⟩
 ·rw [if_neg c3] at H
  exact absurd H (by simp)
mutual
def r03_Get.j0 : Nat → List Int → Int → Bool → Option (Int × Int × Int)
|0,_,_,_ => none
|k + 1,x0,x1,aa => if aa = true then (some (0,0,2)) else (r03_Get.l0 k x0 x1 x1)
def r03_Get.j2 : Nat → List Int → Int → Int → Option (Int × Int × Int)
|0,_,_,_ => none
|k + 1,x0,x1,x7 => if x7 = (x0.length : Int) then (some (0,0,5)) else (if (wrap64 (x7 - x1)) > 8 then (some (0,0,4)) else (r03_Get.l1 k x0 x1 x7 0 x7))
def r03_Get.l1 : Nat → List Int → Int → Int → Int → Int → Option (Int × Int × Int)
|0,_,_,_,_,_ => none
|k + 1,x0,x1,x7,x8,x9 => if x9 ≥ x1 then (if 0 ≤ x9 then (if x9 < (x0.length : Int) then (r03_Get.l1 k x0 x1 x7 (wrap64 ((wrap64 (x8 * 128)) + (Int.tmod (wrap64 (rd x0 x9)) 128))) (wrap64 (x9 - 1))) else (none)) else (none)) else (if x8 > 4611686018427387904 then (some (0,0,4)) else (if x7 > x1 then (if 0 ≤ x7 then (if x7 < (x0.length : Int) then (if (rd x0 x7) = 0 then (some (0,0,3)) else (some (x8,wrap64 (x7 + 1),0))) else (none)) else (none)) else (some (x8,wrap64 (x7 + 1),0))))
def r03_Get.l0 : Nat → List Int → Int → Int → Option (Int × Int × Int)
|0,_,_,_ => none
|k + 1,x0,x1,x7 => if x7 < (x0.length : Int) then (if 0 ≤ x7 then (if (rd x0 x7) ≥ 128 then (r03_Get.l0 k x0 x1 (wrap64 (x7 + 1))) else (r03_Get.j2 k x0 x1 x7)) else (none)) else (r03_Get.j2 k x0 x1 x7)
end
def r03_Get.f (k : Nat) (l0 : List Int) (a1 : Int) : Option (Int × Int × Int) := if a1 < 0 then (r03_Get.j0 k l0 a1 true) else (r03_Get.j0 k l0 a1 (decide (a1 > (l0.length : Int))))
theorem r03_Get.mono_l : ∀ k, (∀ y0 y1 y2, LeO (r03_Get.j0 k y0 y1 y2) (r03_Get.j0 (k + 1) y0 y1 y2)) ∧ (∀ y0 y1 y2, LeO (r03_Get.j2 k y0 y1 y2) (r03_Get.j2 (k + 1) y0 y1 y2)) ∧ (∀ y0 y1 y2 y3 y4, LeO (r03_Get.l1 k y0 y1 y2 y3 y4) (r03_Get.l1 (k + 1) y0 y1 y2 y3 y4)) ∧ (∀ y0 y1 y2, LeO (r03_Get.l0 k y0 y1 y2) (r03_Get.l0 (k + 1) y0 y1 y2))
|0 => ⟨fun _ _ _ r h => by simp [r03_Get.j0] at h,fun _ _ _ r h => by simp [r03_Get.j2] at h,fun _ _ _ _ _ r h => by simp [r03_Get.l1] at h,fun _ _ _ r h => by simp [r03_Get.l0] at h⟩
|k + 1 => by
  obtain ⟨ih0,ih1,ih2,ih3⟩ := r03_Get.mono_l k
  refine ⟨?_,?_,?_,?_⟩
  ·intro y0 y1 y2
   unfold r03_Get.j0
   repeat' (with_reducible first|exact ih3 _ _ _|exact LeO.refl _|exact LeO.none _|refine LeO.ite ?_ ?_|refine LeO.bind ?_ (fun _ => ?_))
  ·intro y0 y1 y2
   unfold r03_Get.j2
   repeat' (with_reducible first|exact ih2 _ _ _ _ _|exact LeO.refl _|exact LeO.none _|refine LeO.ite ?_ ?_|refine LeO.bind ?_ (fun _ => ?_))
  ·intro y0 y1 y2 y3 y4
   unfold r03_Get.l1
   repeat' (with_reducible first|exact ih2 _ _ _ _ _|exact LeO.refl _|exact LeO.none _|refine LeO.ite ?_ ?_|refine LeO.bind ?_ (fun _ => ?_))
  ·intro y0 y1 y2
   unfold r03_Get.l0
   repeat' (with_reducible first|exact ih1 _ _ _|exact ih3 _ _ _|exact LeO.refl _|exact LeO.none _|refine LeO.ite ?_ ?_|refine LeO.bind ?_ (fun _ => ?_))
theorem r03_Get.mono : ∀ a0 a1 k, LeO (r03_Get.f k a0 a1) (r03_Get.f (k + 1) a0 a1) := by
 intro a0 a1 k
 obtain ⟨ih0,ih1,ih2,ih3⟩ := r03_Get.mono_l k
 unfold r03_Get.f
 repeat' (with_reducible first|exact ih0 _ _ _|exact ih1 _ _ _|exact ih2 _ _ _ _ _|exact ih3 _ _ _|exact LeO.refl _|exact LeO.none _|refine LeO.ite ?_ ?_|refine LeO.bind ?_ (fun _ => ?_))
theorem r03_Get.calls (k : Nat) (A0 : Option Addr) (c0 : Nat) (l0 : List Int) (a1 : Int) (r1 : Int) (r2 : Int) (r3 : Int) (w : World) (aR : Kd.C (Kd.int .u8) w A0 l0.length l0) (aS : l0.length ≤ c0) (h : r03_Get.f k l0 a1 = some (r1, r2, r3)) :
  Calls Tryz.prog 38 #[.slice A0 l0.length c0,.int .i64 a1] w fun e w' => e = .returned (.tuple #[.int .i64 r1,.int .i64 r2,.int .i64 r3]) ∧ Drawn0 w w' := by
 have aC := aK aR
 have a7 := aK aS
 clear aR aS
 have H : (if a1 < 0 then (r03_Get.j0 k l0 a1 true) else (r03_Get.j0 k l0 a1 (decide (a1 > (l0.length : Int))))) = some (r1,r2,r3) := h
 clear h
 have aN := aK H
 clear H
 go_enter Tryz.func38,Tryz.ntmps38
 go_upto_region 1 with (fail)
 go_cut [17] (fun a5 wc => ∃ (kq : Nat) (ai : Bool),a5 = .bool ai ∧ Aside0 (r03_Get.j0 kq l0 a1 ai = some (r1,r2,r3)) ∧ Aside0 (kq ≤ k) ∧ Drawn0 w wc)
 case first =>
  have H := aN.out
  clear aN
  by_cases c4 : a1 < 0
  ·rw [if_pos c4] at H
   have aj := decide_eq_true c4
   clear c4
   (first|rw [aj]|(simp only [i64_w,i32_w];rw [aj])|rw [c4b1]|skip)
   have H' := aK H
   clear H
   go_wp2
   go_meet
   case rel => exact ⟨_,(true),(by first|rfl|(simp;done)|(simp [*];done)),H',⟨by first|omega|exact Nat.le_refl _⟩,by repeat (first|exact Drawn0.refl _|apply Drawn0.step)⟩
  ·rw [if_neg c4] at H
   have aj := decide_eq_false c4
   clear c4
   (first|rw [aj]|(simp only [i64_w,i32_w];rw [aj])|rw [c4b1]|skip)
   have H' := aK H
   clear H
   go_wp2
   go_meet
   case rel => exact ⟨_,(decide (a1 > (l0.length : Int))),(by first|rfl|(simp;done)|(simp [*];done)),H',⟨by first|omega|exact Nat.le_refl _⟩,by repeat (first|exact Drawn0.refl _|apply Drawn0.step)⟩
 case rest =>
  clear aN
  try clear p2
  obtain ⟨kq,ai,rfl,HA,ay,⟨a8,rfl⟩⟩ := hcut
  cases kq with
 |zero => exact absurd HA.out (by simp [r03_Get.j0])
 |succ kj2 =>
   have H := HA.out
   clear HA
   simp only [r03_Get.j0] at H
   by_cases c5 : ai = true
   ·subst c5
    rw [if_pos rfl] at H
    simp only [Option.some.injEq,Prod.mk.injEq] at H
    obtain ⟨rfl,rfl,rfl⟩ := H
    go_wp2
    go_ret3
    exact ⟨by first|rfl|(simp;done)|(simp [*];done),by repeat (first|exact Drawn0.refl _|apply Drawn0.step)⟩
   ·replace c5 := Bool.eq_false_iff.mpr c5
    subst c5
    rw [if_neg (show ¬ (false = true) by decide)] at H
    have aO := aK H
    clear H
    go_upto_block 0 with (fail)
    go_cut [7] (fun v7 wc => ∃ (kq : Nat) (aa : Int),v7 = .int .i64 aa ∧ Aside0 (r03_Get.j2 kq l0 a1 aa = some (r1,r2,r3)) ∧ Aside0 (kq ≤ kj2) ∧ Drawn0 w wc)
    case first =>
     have H := aO.out
     clear aO
     have H' := aK H
     clear H
     go_wp2
     go_loopg [7] kj2 (fun kq v7 w' => ∃ (ab : Int),v7 = .int .i64 ab ∧ Aside0 (r03_Get.l0 kq l0 a1 ab = some (r1,r2,r3)) ∧ Aside0 (kq ≤ kj2) ∧ Drawn0 w w')
     case atStart => exact ⟨(a1),(by first|rfl|(simp;done)|(simp [*];done)),H',⟨Nat.le_refl _⟩,by repeat (first|exact Drawn0.refl _|apply Drawn0.step)⟩
     case round =>
      clear H'
      try clear p2
      try clear c5
      try clear p2
      obtain ⟨ab,rfl,HA,aL,⟨m2,rfl⟩⟩ := hrel
      cases gk with
     |zero => exact absurd HA.out (by simp [r03_Get.l0])
     |succ k2 =>
       have H := HA.out
       clear HA
       simp only [r03_Get.l0] at H
       by_cases c7 : ab < (l0.length : Int)
       ·rw [if_pos c7] at H
        have ak := decide_eq_true c7
        clear c7
        (first|rw [ak]|(simp only [i64_w,i32_w];rw [ak])|rw [c7b1]|skip)
        obtain ⟨c8,H⟩ := iS H
        have a6 := decide_eq_true c8
        clear c8
        by_cases c9 : (rd l0 ab) ≥ 128
        ·rw [if_pos c9] at H
         have aP := decide_eq_true c9
         clear c9
         have H' := aK H
         clear H
         have ac : 0 ≤ (ab : Int) := dA
         have ad : ab < (l0.length : Int) := dA
         obtain ⟨aD,aq,ae⟩ := Kd.at_int aC.out ab ac ad
         cases aq
         replace ac := eq_true ac
         replace ad := eq_true ad
         go_wp2
         go_roundg k2
         case measure => have := ay.out;have := aL.out;omega
         case rel => exact ⟨(wrap64 (ab + 1)),(by first|rfl|(simp;done)|(simp [*];done)),H',⟨by have := ay.out;have := aL.out;omega⟩,by repeat (first|exact Drawn0.refl _|apply Drawn0.step)⟩
        ·rw [if_neg c9] at H
         have aP := decide_eq_false c9
         clear c9
         have H' := aK H
         clear H
         have ac : 0 ≤ (ab : Int) := dA
         have ad : ab < (l0.length : Int) := dA
         obtain ⟨aD,aq,ae⟩ := Kd.at_int aC.out ab ac ad
         cases aq
         replace ac := eq_true ac
         replace ad := eq_true ad
         go_wp2
         go_meet
         case rel => exact ⟨_,(ab),(by first|rfl|(simp;done)|(simp [*];done)),H',⟨by have := ay.out;have := aL.out;first|omega|exact Nat.le_refl _⟩,by repeat (first|exact Drawn0.refl _|apply Drawn0.step)⟩
       ·rw [if_neg c7] at H
        have ak := decide_eq_false c7
        clear c7
        (first|rw [ak]|(simp only [i64_w,i32_w];rw [ak])|rw [c7b1]|skip)
        have H' := aK H
        clear H
        go_wp2
        go_meet
        case rel => exact ⟨_,(ab),(by first|rfl|(simp;done)|(simp [*];done)),H',⟨by have := ay.out;have := aL.out;first|omega|exact Nat.le_refl _⟩,by repeat (first|exact Drawn0.refl _|apply Drawn0.step)⟩
    case rest =>
     clear aO
     try clear p2
     try clear p4
     try clear q4
     try clear hx4
     try clear p6
     try clear ae
     try clear p2
     try clear ac
     try clear ad
     obtain ⟨kq,aa,rfl,HA,aT,⟨a9,rfl⟩⟩ := hcut
     cases kq with
    |zero => exact absurd HA.out (by simp [r03_Get.j2])
    |succ kj5 =>
      have H := HA.out
      clear HA
      simp only [r03_Get.j2] at H
      by_cases c10 : aa = (l0.length : Int)
      ·rw [if_pos c10] at H
       have an := beq_iff_eq.mpr c10
       have ao := bne_eq_false_iff_eq.mpr c10
       clear c10
       simp only [Option.some.injEq,Prod.mk.injEq] at H
       obtain ⟨rfl,rfl,rfl⟩ := H
       go_wp2
       go_ret3
       exact ⟨by first|rfl|(simp;done)|(simp [*];done),by repeat (first|exact Drawn0.refl _|apply Drawn0.step)⟩
      ·rw [if_neg c10] at H
       have an := beq_eq_false_iff_ne.mpr c10
       have ao := bne_iff_ne.mpr c10
       by_cases ar : (wrap64 (aa - a1)) > 8
       ·rw [if_pos ar] at H
        have ap := decide_eq_true ar
        clear ar
        simp only [Option.some.injEq,Prod.mk.injEq] at H
        obtain ⟨rfl,rfl,rfl⟩ := H
        go_wp2
        go_ret3
        exact ⟨by first|rfl|(simp;done)|(simp [*];done),by repeat (first|exact Drawn0.refl _|apply Drawn0.step)⟩
       ·rw [if_neg ar] at H
        have ap := decide_eq_false ar
        clear ar
        have H' := aK H
        clear H
        go_wp2
        go_loopg [8,9] kj5 (fun kq v8 v9 w' => ∃ (al : Int) (af : Int),v8 = .int .i64 al ∧ v9 = .int .i64 af ∧ Aside0 (r03_Get.l1 kq l0 a1 aa al af = some (r1,r2,r3)) ∧ Aside0 (kq ≤ kj5) ∧ Drawn0 w w')
        case atStart => exact ⟨(0),(aa),(by first|rfl|(simp;done)|(simp [*];done)),(by first|rfl|(simp;done)|(simp [*];done)),H',⟨Nat.le_refl _⟩,by repeat (first|exact Drawn0.refl _|apply Drawn0.step)⟩
        case round =>
         clear H'
         try clear p2
         try clear p4
         try clear q4
         try clear hx4
         try clear p6
         try clear c10
         try clear an
         try clear ao
         try clear ar
         try clear ap
         try clear ae
         try clear p2
         try clear p4
         try clear ac
         try clear p6
         try clear q4
         try clear ad
         obtain ⟨al,af,rfl,rfl,HA,aU,⟨m3,rfl⟩⟩ := hrel
         cases gk with
        |zero => exact absurd HA.out (by simp [r03_Get.l1])
        |succ k3 =>
          have H := HA.out
          clear HA
          simp only [r03_Get.l1] at H
          by_cases az : af ≥ a1
          ·rw [if_pos az] at H
           have aE := decide_eq_true az
           clear az
           obtain ⟨aV,H⟩ := iS H
           have aW := decide_eq_true aV
           clear aV
           obtain ⟨aX,H⟩ := iS H
           have aY := decide_eq_true aX
           clear aX
           have H' := aK H
           clear H
           have au : 0 ≤ (af : Int) := dA
           have av : af < (l0.length : Int) := dA
           obtain ⟨aZ,aQ,aM⟩ := Kd.at_int aC.out af au av
           cases aQ
           replace au := eq_true au
           replace av := eq_true av
           go_wp2
           go_roundg k3
           case measure => have := ay.out;have := aT.out;have := aU.out;omega
           case rel => exact ⟨(wrap64 ((wrap64 (al * 128)) + (Int.tmod (wrap64 (rd l0 af)) 128))),(wrap64 (af - 1)),(by first|rfl|(simp;done)|(simp [*];done)),(by first|rfl|(simp;done)|(simp [*];done)),H',⟨by have := ay.out;have := aT.out;have := aU.out;omega⟩,by repeat (first|exact Drawn0.refl _|apply Drawn0.step)⟩
          ·rw [if_neg az] at H
           have aE := decide_eq_false az
           clear az
           by_cases aA : al > 4611686018427387904
           ·rw [if_pos aA] at H
            have aF := decide_eq_true aA
            clear aA
            simp only [Option.some.injEq,Prod.mk.injEq] at H
            obtain ⟨rfl,rfl,rfl⟩ := H
            go_wp2
            go_ret3
            exact ⟨by first|rfl|(simp;done)|(simp [*];done),by repeat (first|exact Drawn0.refl _|apply Drawn0.step)⟩
           ·rw [if_neg aA] at H
            have aF := decide_eq_false aA
            clear aA
            by_cases aB : aa > a1
            ·rw [if_pos aB] at H
             have aG := decide_eq_true aB
             clear aB
             obtain ⟨a0,H⟩ := iS H
             have a2 := decide_eq_true a0
             clear a0
             obtain ⟨a3,H⟩ := iS H
             have a4 := decide_eq_true a3
             clear a3
             by_cases aw : (rd l0 aa) = 0
             ·rw [if_pos aw] at H
              have aH := beq_iff_eq.mpr aw
              have aI := bne_eq_false_iff_eq.mpr aw
              clear aw
              simp only [Option.some.injEq,Prod.mk.injEq] at H
              obtain ⟨rfl,rfl,rfl⟩ := H
              have ag : 0 ≤ (aa : Int) := dA
              have ah : aa < (l0.length : Int) := dA
              obtain ⟨aJ,ax,am⟩ := Kd.at_int aC.out aa ag ah
              cases ax
              replace ag := eq_true ag
              replace ah := eq_true ah
              go_wp2
              go_ret3
              exact ⟨by first|rfl|(simp;done)|(simp [*];done),by repeat (first|exact Drawn0.refl _|apply Drawn0.step)⟩
             ·rw [if_neg aw] at H
              have aH := beq_eq_false_iff_ne.mpr aw
              have aI := bne_iff_ne.mpr aw
              simp only [Option.some.injEq,Prod.mk.injEq] at H
              obtain ⟨rfl,rfl,rfl⟩ := H
              have ag : 0 ≤ (aa : Int) := dA
              have ah : aa < (l0.length : Int) := dA
              obtain ⟨aJ,ax,am⟩ := Kd.at_int aC.out aa ag ah
              cases ax
              replace ag := eq_true ag
              replace ah := eq_true ah
              go_wp2
              go_ret3
              exact ⟨by first|rfl|(simp;done)|(simp [*];done),by repeat (first|exact Drawn0.refl _|apply Drawn0.step)⟩
            ·rw [if_neg aB] at H
             have aG := decide_eq_false aB
             clear aB
             simp only [Option.some.injEq,Prod.mk.injEq] at H
             obtain ⟨rfl,rfl,rfl⟩ := H
             go_wp2
             go_ret3
             exact ⟨by first|rfl|(simp;done)|(simp [*];done),by repeat (first|exact Drawn0.refl _|apply Drawn0.step)⟩
end Go.Proofs.YtmgliocboeifdaaGreatDoor.F
