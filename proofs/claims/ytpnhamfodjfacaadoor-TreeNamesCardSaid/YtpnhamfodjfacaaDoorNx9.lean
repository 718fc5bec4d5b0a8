-- Written by hp.py, a program of this session, over the kit's print of the translation. Not trusted: Lean checks it.
import Derived.Test.YtpnhamfodjfacaaDoorNx0
import Derived.Test.YtpnhamfodjfacaaDoorNx5
import Derived.Test.YtpnhamfodjfacaaDoorNx6
import Derived.Test.YtpnhamfodjfacaaDoorNx7
import Derived.Test.YtpnhamfodjfacaaDoorNx8
namespace Go.Proofs.YtpnhamfodjfacaaDoor.N
open Go.RowKit Go.Proofs.YtpnhamfodjfacaaDoorW.PrintWords Go.Proofs.YtpnhamfodjfacaaDoorW.PrintLast Go.Proofs.YtpnhamfodjfacaaDoorW.PrintMore
attribute [local go_sem] max2_int min2_int max_two min_two max_three min_three max_four min_four   -- for this text's walks alone
set_option linter.unusedVariables false
set_option linter.unusedSimpArgs false

/-! ### codesearchlaw25_alive: function 11 -/
mutual
def codesearchlaw25_alive.j0 : Nat → List (S45) → List (S45) → Bool → Option (Bool)
|0,_,_,_ => none
|k + 1,x1,x2,x44 => if x44 = true then (some false) else ((tree_Right.f k (([(⟨(⟨#[97,47,98]⟩ : ByteArray),1⟩ : S45),(⟨(⟨#[97,46,99]⟩ : ByteArray),2⟩ : S45)] : List (S45)))).bind fun t177 => (if t177 = 7 then ((tree_Right.f k (([(⟨(⟨#[97]⟩ : ByteArray),1⟩ : S45),(⟨(⟨#[97,47,98]⟩ : ByteArray),2⟩ : S45)] : List (S45)))).bind fun t181 => (codesearchlaw25_alive.j1 k x1 x2 (t181 != 14))) else (codesearchlaw25_alive.j1 k x1 x2 true)))
def codesearchlaw25_alive.j1 : Nat → List (S45) → List (S45) → Bool → Option (Bool)
|0,_,_,_ => none
|k + 1,x1,x2,x56 => if x56 = true then (some false) else ((some (([(⟨(⟨#[97,47,120]⟩ : ByteArray),1⟩ : S45),(⟨(⟨#[97,47,121,47,122]⟩ : ByteArray),1⟩ : S45),(⟨(⟨#[98]⟩ : ByteArray),1⟩ : S45)] : List (S45)) : List (S45))).bind fun y182 => ((tree_Names.f k y182 (⟨#[]⟩ : ByteArray)).bind fun t185 => ((codesearchref01_Strings.f k t185 (([(⟨#[97]⟩ : ByteArray),(⟨#[98]⟩ : ByteArray)] : List ByteArray))).bind fun t191 => (if t191 = true then ((tree_Names.f k y182 (⟨#[97]⟩ : ByteArray)).bind fun t192 => ((codesearchref01_Strings.f k t192 (([(⟨#[120]⟩ : ByteArray),(⟨#[121]⟩ : ByteArray)] : List ByteArray))).bind fun t198 => (if t198 = true then ((tree_Under.f k y182 (⟨#[97]⟩ : ByteArray)).bind fun t199 => (codesearchlaw25_alive.j2 k x1 x2 y182 ((t199.length : Int) != 2))) else (codesearchlaw25_alive.j2 k x1 x2 y182 true)))) else (codesearchlaw25_alive.j2 k x1 x2 y182 true)))))
def codesearchlaw25_alive.j2 : Nat → List (S45) → List (S45) → List (S45) → Bool → Option (Bool)
|0,_,_,_,_ => none
|k + 1,x1,x2,x6,x78 => if x78 = true then (some false) else ((tree_Get.f k x6 (⟨#[98]⟩ : ByteArray)).bind fun bt202 => ((tree_Merge.f (([(⟨(⟨#[97]⟩ : ByteArray),1⟩ : S45),(⟨(⟨#[98]⟩ : ByteArray),1⟩ : S45)] : List (S45))) (([(⟨(⟨#[97]⟩ : ByteArray),2⟩ : S45),(⟨(⟨#[98]⟩ : ByteArray),1⟩ : S45)] : List (S45))) (([(⟨(⟨#[97]⟩ : ByteArray),3⟩ : S45),(⟨(⟨#[99]⟩ : ByteArray),3⟩ : S45)] : List (S45)))).bind fun bt213 => ((tree_Diff.f x1 x2).bind fun t219 => ((codesearchref25_Changes.f k t219 (([(⟨(⟨#[97]⟩ : ByteArray),5⟩ : S47),(⟨(⟨#[98]⟩ : ByteArray),0⟩ : S47)] : List (S47)))).bind fun t225 => (if t225 = true then (if bt202.1 = 1 then (codesearchlaw25_alive.j3 k bt213.1 bt213.2 (!bt202.2)) else (codesearchlaw25_alive.j3 k bt213.1 bt213.2 true)) else (codesearchlaw25_alive.j3 k bt213.1 bt213.2 true))))))
def codesearchlaw25_alive.j3 : Nat → List (S45) → List ByteArray → Bool → Option (Bool)
|0,_,_,_ => none
|k + 1,x10,x11,x114 => if x114 = true then (some false) else ((codesearchref25_Files.f k x10 (([(⟨(⟨#[97]⟩ : ByteArray),2⟩ : S45),(⟨(⟨#[99]⟩ : ByteArray),3⟩ : S45)] : List (S45)))).bind fun t229 => (if t229 = true then ((codesearchref01_Strings.f k x11 (([(⟨#[97]⟩ : ByteArray)] : List ByteArray))).bind fun t233 => (some t233)) else (some false)))
end
def codesearchlaw25_alive.f (k : Nat)  : Option (Bool) := (some (([(⟨(⟨#[97]⟩ : ByteArray), 1⟩ : S45), (⟨(⟨#[98]⟩ : ByteArray), 2⟩ : S45)] : List (S45)) : List (S45))).bind fun y153 => ((tree_Apply.f k y153 (([(⟨(⟨#[97]⟩ : ByteArray), 5⟩ : S47), (⟨(⟨#[98]⟩ : ByteArray), 0⟩ : S47)] : List (S47)))).bind fun bt159 => ((tree_Apply.f k y153 (([(⟨(⟨#[98]⟩ : ByteArray), 0⟩ : S47), (⟨(⟨#[98]⟩ : ByteArray), 0⟩ : S47)] : List (S47)))).bind fun bt166 => (if bt159.2 = 0 then (if bt166.2 = 8 then ((codesearchref25_Files.f k bt159.1 (([(⟨(⟨#[97]⟩ : ByteArray), 5⟩ : S45)] : List (S45)))).bind fun t173 => (codesearchlaw25_alive.j0 k y153 bt159.1 (!t173))) else (codesearchlaw25_alive.j0 k y153 bt159.1 true)) else (codesearchlaw25_alive.j0 k y153 bt159.1 true))))
theorem codesearchlaw25_alive.mono_l : ∀ k, (∀ y0 y1 y2, LeO (codesearchlaw25_alive.j0 k y0 y1 y2) (codesearchlaw25_alive.j0 (k + 1) y0 y1 y2)) ∧ (∀ y0 y1 y2, LeO (codesearchlaw25_alive.j1 k y0 y1 y2) (codesearchlaw25_alive.j1 (k + 1) y0 y1 y2)) ∧ (∀ y0 y1 y2 y3, LeO (codesearchlaw25_alive.j2 k y0 y1 y2 y3) (codesearchlaw25_alive.j2 (k + 1) y0 y1 y2 y3)) ∧ (∀ y0 y1 y2, LeO (codesearchlaw25_alive.j3 k y0 y1 y2) (codesearchlaw25_alive.j3 (k + 1) y0 y1 y2))
|0 => ⟨fun _ _ _ r h => by simp [codesearchlaw25_alive.j0] at h,fun _ _ _ r h => by simp [codesearchlaw25_alive.j1] at h,fun _ _ _ _ r h => by simp [codesearchlaw25_alive.j2] at h,fun _ _ _ r h => by simp [codesearchlaw25_alive.j3] at h⟩
|k + 1 => by
  obtain ⟨ih0,ih1,ih2,ih3⟩ := codesearchlaw25_alive.mono_l k
  refine ⟨?_,?_,?_,?_⟩
  ·intro y0 y1 y2
   unfold codesearchlaw25_alive.j0
   repeat' first
  |(with_reducible exact ih0 _ _ _)
  |(with_reducible exact ih1 _ _ _)
  |(with_reducible exact ih2 _ _ _ _)
  |(with_reducible exact ih3 _ _ _)
  |(with_reducible exact codesearchref01_Strings.mono _ _ _)
  |(with_reducible exact codesearchref25_Changes.mono _ _ _)
  |(with_reducible exact codesearchref25_Files.mono _ _ _)
  |(with_reducible exact tree_Apply.mono _ _ _)
  |(with_reducible exact tree_Get.mono _ _ _)
  |(with_reducible exact tree_Names.mono _ _ _)
  |(with_reducible exact tree_Right.mono _ _)
  |(with_reducible exact tree_Under.mono _ _ _)
  |(with_reducible exact LeO.refl _)
  |(with_reducible exact LeO.none _)
  |(with_reducible refine LeO.ite ?_ ?_)
  |(with_reducible refine LeO.bind ?_ (fun _ => ?_))
  |exact ih0 _ _ _
  |exact ih1 _ _ _
  |exact ih2 _ _ _ _
  |exact ih3 _ _ _
  |exact codesearchref01_Strings.mono _ _ _
  |exact codesearchref25_Changes.mono _ _ _
  |exact codesearchref25_Files.mono _ _ _
  |exact tree_Apply.mono _ _ _
  |exact tree_Get.mono _ _ _
  |exact tree_Names.mono _ _ _
  |exact tree_Right.mono _ _
  |exact tree_Under.mono _ _ _
  |exact LeO.none _
  |refine LeO.ite ?_ ?_
  |refine LeO.bind ?_ (fun _ => ?_)
  ·intro y0 y1 y2
   unfold codesearchlaw25_alive.j1
   repeat' first
  |(with_reducible exact ih0 _ _ _)
  |(with_reducible exact ih1 _ _ _)
  |(with_reducible exact ih2 _ _ _ _)
  |(with_reducible exact ih3 _ _ _)
  |(with_reducible exact codesearchref01_Strings.mono _ _ _)
  |(with_reducible exact codesearchref25_Changes.mono _ _ _)
  |(with_reducible exact codesearchref25_Files.mono _ _ _)
  |(with_reducible exact tree_Apply.mono _ _ _)
  |(with_reducible exact tree_Get.mono _ _ _)
  |(with_reducible exact tree_Names.mono _ _ _)
  |(with_reducible exact tree_Right.mono _ _)
  |(with_reducible exact tree_Under.mono _ _ _)
  |(with_reducible exact LeO.refl _)
  |(with_reducible exact LeO.none _)
  |(with_reducible refine LeO.ite ?_ ?_)
  |(with_reducible refine LeO.bind ?_ (fun _ => ?_))
  |exact ih0 _ _ _
  |exact ih1 _ _ _
  |exact ih2 _ _ _ _
  |exact ih3 _ _ _
  |exact codesearchref01_Strings.mono _ _ _
  |exact codesearchref25_Changes.mono _ _ _
  |exact codesearchref25_Files.mono _ _ _
  |exact tree_Apply.mono _ _ _
  |exact tree_Get.mono _ _ _
  |exact tree_Names.mono _ _ _
  |exact tree_Right.mono _ _
  |exact tree_Under.mono _ _ _
  |exact LeO.none _
  |refine LeO.ite ?_ ?_
  |refine LeO.bind ?_ (fun _ => ?_)
  ·intro y0 y1 y2 y3
   unfold codesearchlaw25_alive.j2
   repeat' first
  |(with_reducible exact ih0 _ _ _)
  |(with_reducible exact ih1 _ _ _)
  |(with_reducible exact ih2 _ _ _ _)
  |(with_reducible exact ih3 _ _ _)
  |(with_reducible exact codesearchref01_Strings.mono _ _ _)
  |(with_reducible exact codesearchref25_Changes.mono _ _ _)
  |(with_reducible exact codesearchref25_Files.mono _ _ _)
  |(with_reducible exact tree_Apply.mono _ _ _)
  |(with_reducible exact tree_Get.mono _ _ _)
  |(with_reducible exact tree_Names.mono _ _ _)
  |(with_reducible exact tree_Right.mono _ _)
  |(with_reducible exact tree_Under.mono _ _ _)
  |(with_reducible exact LeO.refl _)
  |(with_reducible exact LeO.none _)
  |(with_reducible refine LeO.ite ?_ ?_)
  |(with_reducible refine LeO.bind ?_ (fun _ => ?_))
  |exact ih0 _ _ _
  |exact ih1 _ _ _
  |exact ih2 _ _ _ _
  |exact ih3 _ _ _
  |exact codesearchref01_Strings.mono _ _ _
  |exact codesearchref25_Changes.mono _ _ _
  |exact codesearchref25_Files.mono _ _ _
  |exact tree_Apply.mono _ _ _
  |exact tree_Get.mono _ _ _
  |exact tree_Names.mono _ _ _
  |exact tree_Right.mono _ _
  |exact tree_Under.mono _ _ _
  |exact LeO.none _
  |refine LeO.ite ?_ ?_
  |refine LeO.bind ?_ (fun _ => ?_)
  ·intro y0 y1 y2
   unfold codesearchlaw25_alive.j3
   repeat' first
  |(with_reducible exact ih0 _ _ _)
  |(with_reducible exact ih1 _ _ _)
  |(with_reducible exact ih2 _ _ _ _)
  |(with_reducible exact ih3 _ _ _)
  |(with_reducible exact codesearchref01_Strings.mono _ _ _)
  |(with_reducible exact codesearchref25_Changes.mono _ _ _)
  |(with_reducible exact codesearchref25_Files.mono _ _ _)
  |(with_reducible exact tree_Apply.mono _ _ _)
  |(with_reducible exact tree_Get.mono _ _ _)
  |(with_reducible exact tree_Names.mono _ _ _)
  |(with_reducible exact tree_Right.mono _ _)
  |(with_reducible exact tree_Under.mono _ _ _)
  |(with_reducible exact LeO.refl _)
  |(with_reducible exact LeO.none _)
  |(with_reducible refine LeO.ite ?_ ?_)
  |(with_reducible refine LeO.bind ?_ (fun _ => ?_))
  |exact ih0 _ _ _
  |exact ih1 _ _ _
  |exact ih2 _ _ _ _
  |exact ih3 _ _ _
  |exact codesearchref01_Strings.mono _ _ _
  |exact codesearchref25_Changes.mono _ _ _
  |exact codesearchref25_Files.mono _ _ _
  |exact tree_Apply.mono _ _ _
  |exact tree_Get.mono _ _ _
  |exact tree_Names.mono _ _ _
  |exact tree_Right.mono _ _
  |exact tree_Under.mono _ _ _
  |exact LeO.none _
  |refine LeO.ite ?_ ?_
  |refine LeO.bind ?_ (fun _ => ?_)
theorem codesearchlaw25_alive.mono : ∀ k, LeO (codesearchlaw25_alive.f k ) (codesearchlaw25_alive.f (k + 1) ) := by
 intro  k
 obtain ⟨ih0,ih1,ih2,ih3⟩ := codesearchlaw25_alive.mono_l k
 unfold codesearchlaw25_alive.f
 repeat' first
  |(with_reducible exact ih0 _ _ _)
  |(with_reducible exact ih1 _ _ _)
  |(with_reducible exact ih2 _ _ _ _)
  |(with_reducible exact ih3 _ _ _)
  |(with_reducible exact codesearchref01_Strings.mono _ _ _)
  |(with_reducible exact codesearchref25_Changes.mono _ _ _)
  |(with_reducible exact codesearchref25_Files.mono _ _ _)
  |(with_reducible exact tree_Apply.mono _ _ _)
  |(with_reducible exact tree_Get.mono _ _ _)
  |(with_reducible exact tree_Names.mono _ _ _)
  |(with_reducible exact tree_Right.mono _ _)
  |(with_reducible exact tree_Under.mono _ _ _)
  |(with_reducible exact LeO.refl _)
  |(with_reducible exact LeO.none _)
  |(with_reducible refine LeO.ite ?_ ?_)
  |(with_reducible refine LeO.bind ?_ (fun _ => ?_))
  |exact ih0 _ _ _
  |exact ih1 _ _ _
  |exact ih2 _ _ _ _
  |exact ih3 _ _ _
  |exact codesearchref01_Strings.mono _ _ _
  |exact codesearchref25_Changes.mono _ _ _
  |exact codesearchref25_Files.mono _ _ _
  |exact tree_Apply.mono _ _ _
  |exact tree_Get.mono _ _ _
  |exact tree_Names.mono _ _ _
  |exact tree_Right.mono _ _
  |exact tree_Under.mono _ _ _
  |exact LeO.none _
  |refine LeO.ite ?_ ?_
  |refine LeO.bind ?_ (fun _ => ?_)
set_option maxHeartbeats 4000000 in
set_option maxRecDepth 100000 in
theorem codesearchlaw25_alive.calls (k : Nat)  (r : Bool) (w : World) (h : codesearchlaw25_alive.f k  = some r) :
  Calls Tryd.prog 11 #[] w fun e w' => e = .returned (.bool r) ∧ Below w.heap.size w w' := by
 have hu45 := Tryd.underlying45
 have hu47 := Tryd.underlying47
 have HB := Aside0.mk (Below.refl w.heap.size w)
 have H : ((some (([(⟨(⟨#[97]⟩ : ByteArray),1⟩ : S45),(⟨(⟨#[98]⟩ : ByteArray),2⟩ : S45)] : List (S45)) : List (S45))).bind fun y153 => ((tree_Apply.f k y153 (([(⟨(⟨#[97]⟩ : ByteArray),5⟩ : S47),(⟨(⟨#[98]⟩ : ByteArray),0⟩ : S47)] : List (S47)))).bind fun bt159 => ((tree_Apply.f k y153 (([(⟨(⟨#[98]⟩ : ByteArray),0⟩ : S47),(⟨(⟨#[98]⟩ : ByteArray),0⟩ : S47)] : List (S47)))).bind fun bt166 => (if bt159.2 = 0 then (if bt166.2 = 8 then ((codesearchref25_Files.f k bt159.1 (([(⟨(⟨#[97]⟩ : ByteArray),5⟩ : S45)] : List (S45)))).bind fun t173 => (codesearchlaw25_alive.j0 k y153 bt159.1 (!t173))) else (codesearchlaw25_alive.j0 k y153 bt159.1 true)) else (codesearchlaw25_alive.j0 k y153 bt159.1 true))))) = some r := h
 clear h
 obtain ⟨y153,hy153⟩ : ∃ y_ : List (S45),y_ = (([(⟨(⟨#[97]⟩ : ByteArray),1⟩ : S45),(⟨(⟨#[98]⟩ : ByteArray),2⟩ : S45)] : List (S45))) := ⟨_,rfl⟩
 replace H : ((tree_Apply.f k y153 (([(⟨(⟨#[97]⟩ : ByteArray),5⟩ : S47),(⟨(⟨#[98]⟩ : ByteArray),0⟩ : S47)] : List (S47)))).bind fun bt159 => ((tree_Apply.f k y153 (([(⟨(⟨#[98]⟩ : ByteArray),0⟩ : S47),(⟨(⟨#[98]⟩ : ByteArray),0⟩ : S47)] : List (S47)))).bind fun bt166 => (if bt159.2 = 0 then (if bt166.2 = 8 then ((codesearchref25_Files.f k bt159.1 (([(⟨(⟨#[97]⟩ : ByteArray),5⟩ : S45)] : List (S45)))).bind fun t173 => (codesearchlaw25_alive.j0 k y153 bt159.1 (!t173))) else (codesearchlaw25_alive.j0 k y153 bt159.1 true)) else (codesearchlaw25_alive.j0 k y153 bt159.1 true)))) = some r := by first|(rw [hy153];with_reducible exact H)|(have H2_ := (Option.bind_some _ _).symm.trans H;rw [hy153];with_reducible exact H2_)|(have H2_ := (Option.bind_some _ _).symm.trans H;with_reducible exact H2_)|with_reducible exact H|(rw [hy153];exact H)|exact H
 have Ny153 := Aside0.mk hy153
 clear hy153
 obtain ⟨y156,hy156⟩ : ∃ y_ : List (S47),y_ = (([(⟨(⟨#[97]⟩ : ByteArray),5⟩ : S47),(⟨(⟨#[98]⟩ : ByteArray),0⟩ : S47)] : List (S47))) := ⟨_,rfl⟩
 replace H : ((tree_Apply.f k y153 y156).bind fun bt159 => ((tree_Apply.f k y153 (([(⟨(⟨#[98]⟩ : ByteArray),0⟩ : S47),(⟨(⟨#[98]⟩ : ByteArray),0⟩ : S47)] : List (S47)))).bind fun bt166 => (if bt159.2 = 0 then (if bt166.2 = 8 then ((codesearchref25_Files.f k bt159.1 (([(⟨(⟨#[97]⟩ : ByteArray),5⟩ : S45)] : List (S45)))).bind fun t173 => (codesearchlaw25_alive.j0 k y153 bt159.1 (!t173))) else (codesearchlaw25_alive.j0 k y153 bt159.1 true)) else (codesearchlaw25_alive.j0 k y153 bt159.1 true)))) = some r := by first|(rw [hy156];with_reducible exact H)|(have H2_ := (Option.bind_some _ _).symm.trans H;rw [hy156];with_reducible exact H2_)|(have H2_ := (Option.bind_some _ _).symm.trans H;with_reducible exact H2_)|with_reducible exact H|(rw [hy156];exact H)|exact H
 have Ny156 := Aside0.mk hy156
 clear hy156
 replace H := Option.bind_eq_some_iff.mp H
 obtain ⟨⟨t159,t160⟩,A10,H⟩ := H
 replace H : ((tree_Apply.f k y153 (([(⟨(⟨#[98]⟩ : ByteArray),0⟩ : S47),(⟨(⟨#[98]⟩ : ByteArray),0⟩ : S47)] : List (S47)))).bind fun bt166 => (if t160 = 0 then (if bt166.2 = 8 then ((codesearchref25_Files.f k t159 (([(⟨(⟨#[97]⟩ : ByteArray),5⟩ : S45)] : List (S45)))).bind fun t173 => (codesearchlaw25_alive.j0 k y153 t159 (!t173))) else (codesearchlaw25_alive.j0 k y153 t159 true)) else (codesearchlaw25_alive.j0 k y153 t159 true))) = some r := H
 have A1 := Aside0.mk A10
 clear A10
 obtain ⟨y163,hy163⟩ : ∃ y_ : List (S47),y_ = (([(⟨(⟨#[98]⟩ : ByteArray),0⟩ : S47),(⟨(⟨#[98]⟩ : ByteArray),0⟩ : S47)] : List (S47))) := ⟨_,rfl⟩
 replace H : ((tree_Apply.f k y153 y163).bind fun bt166 => (if t160 = 0 then (if bt166.2 = 8 then ((codesearchref25_Files.f k t159 (([(⟨(⟨#[97]⟩ : ByteArray),5⟩ : S45)] : List (S45)))).bind fun t173 => (codesearchlaw25_alive.j0 k y153 t159 (!t173))) else (codesearchlaw25_alive.j0 k y153 t159 true)) else (codesearchlaw25_alive.j0 k y153 t159 true))) = some r := by first|(rw [hy163];with_reducible exact H)|(have H2_ := (Option.bind_some _ _).symm.trans H;rw [hy163];with_reducible exact H2_)|(have H2_ := (Option.bind_some _ _).symm.trans H;with_reducible exact H2_)|with_reducible exact H|(rw [hy163];exact H)|exact H
 have Ny163 := Aside0.mk hy163
 clear hy163
 replace H := Option.bind_eq_some_iff.mp H
 obtain ⟨⟨t166,t167⟩,A20,H⟩ := H
 replace H : (if t160 = 0 then (if t167 = 8 then ((codesearchref25_Files.f k t159 (([(⟨(⟨#[97]⟩ : ByteArray),5⟩ : S45)] : List (S45)))).bind fun t173 => (codesearchlaw25_alive.j0 k y153 t159 (!t173))) else (codesearchlaw25_alive.j0 k y153 t159 true)) else (codesearchlaw25_alive.j0 k y153 t159 true)) = some r := H
 have A2 := Aside0.mk A20
 clear A20
 have HC3 := Aside0.mk H
 clear H
 go_enter Tryd.func11,Tryd.ntmps11
 go_upto_region 4 with (first|((with_reducible refine gate_dst (N := 15) rfl ?_);(try (refine gate_guard (by rfl) ?_;dsimp only));refine Kd.R_lit k45 _ 45 ?hg (N := 15) ?hd (xs := ([(⟨(⟨#[97]⟩ : ByteArray),1⟩ : S45),(⟨(⟨#[98]⟩ : ByteArray),2⟩ : S45)] : List (S45))) (inner := [.string (⟨#[97]⟩ : ByteArray),.int .i64 1,.string (⟨#[98]⟩ : ByteArray),.int .i64 2]) (ok := fun _ => True) (okp := fun _ => True) ?hr ?hp (fun _ hk => hk) trivial (Below.refl _ _) (Nat.le_refl _) (by simp) ?_;(case hd => rfl);(case hg => rfl);(case hr => first|(go_simp;done)|(go_simp;rfl));(case hp => exact (Reps.c2 (show Kd.M k45 _ _ _ (⟨(⟨#[97]⟩ : ByteArray),1⟩ : S45) [.string (⟨#[97]⟩ : ByteArray),.int .i64 1] from (k45_mkM _ _ _ (⟨(⟨#[97]⟩ : ByteArray),1⟩ : S45) )) (Reps.c2 (show Kd.M k45 _ _ _ (⟨(⟨#[98]⟩ : ByteArray),2⟩ : S45) [.string (⟨#[98]⟩ : ByteArray),.int .i64 2] from (k45_mkM _ _ _ (⟨(⟨#[98]⟩ : ByteArray),2⟩ : S45) )) (Reps.none _ _))));intro v154 w4 ho5 hb hg_ hnew_;clear hg_ hnew_;(first|rw [← Ny153.out] at ho5|(simp only [Int.reduceToNat] at ho5;rw [← Ny153.out] at ho5));have n0_ := Aside0.mk (Kd.R_lower ho5 (below_size (bM HB.out)));have n1_ := Aside0.mk (below_step (bM HB.out) hb);clear HB;have HO155 := n0_;have HB := n1_;clear n0_ n1_;clear hb ho5)|((with_reducible refine gate_dst (N := 20) rfl ?_);(try (refine gate_guard (by rfl) ?_;dsimp only));refine Kd.R_lit k47 _ 47 ?hg (N := 20) ?hd (xs := ([(⟨(⟨#[97]⟩ : ByteArray),5⟩ : S47),(⟨(⟨#[98]⟩ : ByteArray),0⟩ : S47)] : List (S47))) (inner := [.string (⟨#[97]⟩ : ByteArray),.int .i64 5,.string (⟨#[98]⟩ : ByteArray),.int .i64 0]) (ok := fun _ => True) (okp := fun _ => True) ?hr ?hp (fun _ hk => hk) trivial (Below.refl _ _) (Nat.le_refl _) (by simp) ?_;(case hd => rfl);(case hg => rfl);(case hr => first|(go_simp;done)|(go_simp;rfl));(case hp => exact (Reps.c2 (show Kd.M k47 _ _ _ (⟨(⟨#[97]⟩ : ByteArray),5⟩ : S47) [.string (⟨#[97]⟩ : ByteArray),.int .i64 5] from (k47_mkM _ _ _ (⟨(⟨#[97]⟩ : ByteArray),5⟩ : S47) )) (Reps.c2 (show Kd.M k47 _ _ _ (⟨(⟨#[98]⟩ : ByteArray),0⟩ : S47) [.string (⟨#[98]⟩ : ByteArray),.int .i64 0] from (k47_mkM _ _ _ (⟨(⟨#[98]⟩ : ByteArray),0⟩ : S47) )) (Reps.none _ _))));intro v157 w6 ho7 hb hg_ hnew_;clear hg_ hnew_;(first|rw [← Ny156.out] at ho7|(simp only [Int.reduceToNat] at ho7;rw [← Ny156.out] at ho7));have n0_ := Aside0.mk (Kd.R_below (rM HO155.out) hb);have n1_ := Aside0.mk (Kd.R_lower ho7 (below_size (bM HB.out)));have n2_ := Aside0.mk (below_step (bM HB.out) hb);clear HO155;clear HB;have HO155 := n0_;have HO158 := n1_;have HB := n2_;clear n0_ n1_ n2_;clear hb ho7;obtain ⟨Ao8,co8,eo8⟩ := Kd.R_slice HO155.out;subst eo8;obtain ⟨Ao9,co9,eo9⟩ := Kd.R_slice HO158.out;subst eo9)|((with_reducible refine gate_callee (f := 16) rfl ?_);refine goesL_ (some 21) rfl rfl Tryd.func16 (by kernel_rfl) rfl #[.slice Ao8 y153.length co8,.slice Ao9 y156.length co9] rfl (by (try simp only [List.map_toArray,List.map_cons,List.map_nil]);first|done|rfl|(simp only [List.length_drop,List.length_take];rfl)) ?_;(with_reducible refine (tree_Apply.calls k _ _ y153 _ _ y156 t159 t160 _ ?side1 ?side2 ?side3 ?side4 A1.out).mono ?_);(case side1 => exact cM (Kd.R_reads' HO155.out).2.2);(case side2 => exact (Kd.R_reads' HO155.out).2.1);(case side3 => exact cM (Kd.R_reads' HO158.out).2.2);(case side4 => exact (Kd.R_reads' HO158.out).2.1);rintro e w10 ⟨v161,rfl,ho0,hb⟩;refine ⟨_,rfl,?_⟩;have n0_ := Aside0.mk (Kd.R_elder' (rM HO155.out) (Kd.R_base ho0) hb);have n1_ := Aside0.mk (Kd.R_below (rM HO158.out) hb);have n2_ := Aside0.mk (Kd.R_lower (Kd.R_new' ho0 (Kd.R_lt (rM HO155.out))) (below_size (bM HB.out)));have n3_ := Aside0.mk (below_step (bM HB.out) hb);clear HO155;clear HO158;clear HB;have HO155 := n0_;have HO158 := n1_;have HO162 := n2_;have HB := n3_;clear n0_ n1_ n2_ n3_;(try clear hb);(try clear hb2);(try clear hk);(try clear hi);(try clear ho0))|((with_reducible refine gate_dst (N := 28) rfl ?_);(try (refine gate_guard (by rfl) ?_;dsimp only));refine Kd.R_lit k47 _ 47 ?hg (N := 28) ?hd (xs := ([(⟨(⟨#[98]⟩ : ByteArray),0⟩ : S47),(⟨(⟨#[98]⟩ : ByteArray),0⟩ : S47)] : List (S47))) (inner := [.string (⟨#[98]⟩ : ByteArray),.int .i64 0,.string (⟨#[98]⟩ : ByteArray),.int .i64 0]) (ok := fun _ => True) (okp := fun _ => True) ?hr ?hp (fun _ hk => hk) trivial (Below.refl _ _) (Nat.le_refl _) (by simp) ?_;(case hd => rfl);(case hg => rfl);(case hr => first|(go_simp;done)|(go_simp;rfl));(case hp => exact (Reps.c2 (show Kd.M k47 _ _ _ (⟨(⟨#[98]⟩ : ByteArray),0⟩ : S47) [.string (⟨#[98]⟩ : ByteArray),.int .i64 0] from (k47_mkM _ _ _ (⟨(⟨#[98]⟩ : ByteArray),0⟩ : S47) )) (Reps.c2 (show Kd.M k47 _ _ _ (⟨(⟨#[98]⟩ : ByteArray),0⟩ : S47) [.string (⟨#[98]⟩ : ByteArray),.int .i64 0] from (k47_mkM _ _ _ (⟨(⟨#[98]⟩ : ByteArray),0⟩ : S47) )) (Reps.none _ _))));intro v164 w11 ho12 hb hg_ hnew_;clear hg_ hnew_;(first|rw [← Ny163.out] at ho12|(simp only [Int.reduceToNat] at ho12;rw [← Ny163.out] at ho12));have n0_ := Aside0.mk (Kd.R_below (rM HO155.out) hb);have n1_ := Aside0.mk (Kd.R_elder' (rM HO158.out) (Kd.R_base ho12) hb);have n2_ := Aside0.mk (Kd.R_below (rM HO162.out) hb);have n3_ := Aside0.mk (Kd.R_lower (Kd.R_new' ho12 (Kd.R_lt (rM HO158.out))) (below_size (bM HB.out)));have n4_ := Aside0.mk (below_step (bM HB.out) hb);clear HO155;clear HO158;clear HO162;clear HB;have HO155 := n0_;have HO158 := n1_;have HO162 := n2_;have HO165 := n3_;have HB := n4_;clear n0_ n1_ n2_ n3_ n4_;clear hb ho12;obtain ⟨Ao13,co13,eo13⟩ := Kd.R_slice HO165.out;subst eo13)|((with_reducible refine gate_callee (f := 16) rfl ?_);refine goesL_ (some 29) rfl rfl Tryd.func16 (by kernel_rfl) rfl #[.slice Ao8 y153.length co8,.slice Ao13 y163.length co13] rfl (by (try simp only [List.map_toArray,List.map_cons,List.map_nil]);first|done|rfl|(simp only [List.length_drop,List.length_take];rfl)) ?_;(with_reducible refine (tree_Apply.calls k _ _ y153 _ _ y163 t166 t167 _ ?side1 ?side2 ?side3 ?side4 A2.out).mono ?_);(case side1 => exact cM (Kd.R_reads' HO155.out).2.2);(case side2 => exact (Kd.R_reads' HO155.out).2.1);(case side3 => exact cM (Kd.R_reads' HO165.out).2.2);(case side4 => exact (Kd.R_reads' HO165.out).2.1);rintro e w14 ⟨v168,rfl,ho0,hb⟩;refine ⟨_,rfl,?_⟩;have n0_ := Aside0.mk (Kd.R_elder' (rM HO155.out) (Kd.R_base ho0) hb);have n1_ := Aside0.mk (Kd.R_below (rM HO158.out) hb);have n2_ := Aside0.mk (Kd.R_elder' (rM HO162.out) (Kd.R_base ho0) hb);have n3_ := Aside0.mk (Kd.R_below (rM HO165.out) hb);have n4_ := Aside0.mk (Kd.R_lower (Kd.R_new' (Kd.R_new' ho0 (Kd.R_lt (rM HO155.out))) (Kd.R_lt (rM HO162.out))) (below_size (bM HB.out)));have n5_ := Aside0.mk (below_step (bM HB.out) hb);clear HO155;clear HO158;clear HO162;clear HO165;clear HB;have HO155 := n0_;have HO158 := n1_;have HO162 := n2_;have HO165 := n3_;have HO169 := n4_;have HB := n5_;clear n0_ n1_ n2_ n3_ n4_ n5_;(try clear hb);(try clear hb2);(try clear hk);(try clear hi);(try clear ho0)))
 (try simp only [Act.put,List.setIfInBounds_toArray,List.set_cons_zero,List.set_cons_succ])
 go_cut [44] (fun v44 wc => ∃ (kq : Nat) (x44_2 : Bool),v44 = .bool x44_2 ∧ Aside0 (codesearchlaw25_alive.j0 kq y153 t159 x44_2 = some r) ∧ Aside0 (kq ≤ k) ∧ Aside0 (Kd.R k45 45 wc w.heap.size (fun k_ => some k_ ≠ (v161 : Value).ownBlock) (.slice Ao8 y153.length co8) y153) ∧ Aside0 (Kd.R k45 45 wc w.heap.size (fun k_ => some k_ ≠ ((.slice Ao8 y153.length co8) : Value).ownBlock) v161 t159) ∧ Aside0 (Below w.heap.size w wc))
 case first =>
  have H := HC3.out
  clear HC3
  by_cases c15 : t160 = 0
  ·rw [if_pos c15] at H
   have c15b0 : (t160 == 0) = true := beq_iff_eq.mpr c15
   have c15b1 : (t160 != 0) = false := bne_eq_false_iff_eq.mpr c15
   clear c15
   (first|rw [c15b0]|(simp only [i64_w,i32_w];rw [c15b0])|rw [c15b1]|skip)
   by_cases c16 : t167 = 8
   ·rw [if_pos c16] at H
    have c16b0 : (t167 == 8) = true := beq_iff_eq.mpr c16
    have c16b1 : (t167 != 8) = false := bne_eq_false_iff_eq.mpr c16
    clear c16
    obtain ⟨y170,hy170⟩ : ∃ y_ : List (S45),y_ = (([(⟨(⟨#[97]⟩ : ByteArray),5⟩ : S45)] : List (S45))) := ⟨_,rfl⟩
    replace H : ((codesearchref25_Files.f k t159 y170).bind fun t173 => (codesearchlaw25_alive.j0 k y153 t159 (!t173))) = some r := by first|(rw [hy170];with_reducible exact H)|(have H2_ := (Option.bind_some _ _).symm.trans H;rw [hy170];with_reducible exact H2_)|(have H2_ := (Option.bind_some _ _).symm.trans H;with_reducible exact H2_)|with_reducible exact H|(rw [hy170];exact H)|exact H
    have Ny170 := Aside0.mk hy170
    clear hy170
    replace H := Option.bind_eq_some_iff.mp H
    obtain ⟨t173,A170,H⟩ := H
    replace H : (codesearchlaw25_alive.j0 k y153 t159 (!t173)) = some r := H
    have A17 := Aside0.mk A170
    clear A170
    have H' := Aside0.mk H
    clear H
    go_wp2_with (first|((with_reducible refine gate_dst (N := 41) rfl ?_);(try (refine gate_guard (by rfl) ?_;dsimp only));refine Kd.R_lit k45 _ 45 ?hg (N := 41) ?hd (xs := ([(⟨(⟨#[97]⟩ : ByteArray),5⟩ : S45)] : List (S45))) (inner := [.string (⟨#[97]⟩ : ByteArray),.int .i64 5]) (ok := fun _ => True) (okp := fun _ => True) ?hr ?hp (fun _ hk => hk) trivial (Below.refl _ _) (Nat.le_refl _) (by simp) ?_;(case hd => rfl);(case hg => rfl);(case hr => first|(go_simp;done)|(go_simp;rfl));(case hp => exact (Reps.c2 (show Kd.M k45 _ _ _ (⟨(⟨#[97]⟩ : ByteArray),5⟩ : S45) [.string (⟨#[97]⟩ : ByteArray),.int .i64 5] from (k45_mkM _ _ _ (⟨(⟨#[97]⟩ : ByteArray),5⟩ : S45) )) (Reps.none _ _)));intro v171 w18 ho19 hb hg_ hnew_;clear hg_ hnew_;(first|rw [← Ny170.out] at ho19|(simp only [Int.reduceToNat] at ho19;rw [← Ny170.out] at ho19));have n0_ := Aside0.mk (Kd.R_elder' (rM HO155.out) (Kd.R_base ho19) hb);have n1_ := Aside0.mk (Kd.R_below (rM HO158.out) hb);have n2_ := Aside0.mk (Kd.R_elder' (rM HO162.out) (Kd.R_base ho19) hb);have n3_ := Aside0.mk (Kd.R_below (rM HO165.out) hb);have n4_ := Aside0.mk (Kd.R_elder' (rM HO169.out) (Kd.R_base ho19) hb);have n5_ := Aside0.mk (Kd.R_lower (Kd.R_new' (Kd.R_new' (Kd.R_new' ho19 (Kd.R_lt (rM HO155.out))) (Kd.R_lt (rM HO162.out))) (Kd.R_lt (rM HO169.out))) (below_size (bM HB.out)));have n6_ := Aside0.mk (below_step (bM HB.out) hb);clear HO155;clear HO158;clear HO162;clear HO165;clear HO169;clear HB;have HO155 := n0_;have HO158 := n1_;have HO162 := n2_;have HO165 := n3_;have HO169 := n4_;have HO172 := n5_;have HB := n6_;clear n0_ n1_ n2_ n3_ n4_ n5_ n6_;clear hb ho19;obtain ⟨Ao20,co20,eo20⟩ := Kd.R_slice HO162.out;subst eo20;obtain ⟨Ao21,co21,eo21⟩ := Kd.R_slice HO172.out;subst eo21)|(go_at_call 18;(with_reducible refine (codesearchref25_Files.calls k _ _ t159 _ _ y170 t173 _ ?side1 ?side2 ?side3 ?side4 A17.out).mono ?_);(case side1 => exact cM (Kd.R_reads' HO162.out).2.2);(case side2 => exact (Kd.R_reads' HO162.out).2.1);(case side3 => exact cM (Kd.R_reads' HO172.out).2.2);(case side4 => exact (Kd.R_reads' HO172.out).2.1);rintro e w' ⟨rfl,⟨nd,rfl⟩⟩))
    go_meet
    case rel => exact ⟨_,(!t173),(by first|rfl|(simp;done)|(simp [*];done)),H',⟨by first|omega|exact Nat.le_refl _⟩,⟨by (with_reducible repeat (first|apply Kd.R_alloc|apply Kd.R_drewN|apply Kd.R_drew));exact Kd.R_mono HO155.out (fun _ hk => hk.1.1.2)⟩,⟨by (with_reducible repeat (first|apply Kd.R_alloc|apply Kd.R_drewN|apply Kd.R_drew));exact Kd.R_mono HO162.out (fun _ hk => hk.1.1.2)⟩,⟨bM HB.out⟩⟩
   ·rw [if_neg c16] at H
    have c16b0 : (t167 == 8) = false := beq_eq_false_iff_ne.mpr c16
    have c16b1 : (t167 != 8) = true := bne_iff_ne.mpr c16
    have H' := Aside0.mk H
    clear H
    go_wp2
    go_meet
    case rel => exact ⟨_,(true),(by first|rfl|(simp;done)|(simp [*];done)),H',⟨by first|omega|exact Nat.le_refl _⟩,⟨by (with_reducible repeat (first|apply Kd.R_alloc|apply Kd.R_drewN|apply Kd.R_drew));exact Kd.R_mono HO155.out (fun _ hk => hk.1.2)⟩,⟨by (with_reducible repeat (first|apply Kd.R_alloc|apply Kd.R_drewN|apply Kd.R_drew));exact Kd.R_mono HO162.out (fun _ hk => hk.1.2)⟩,⟨bM HB.out⟩⟩
  ·rw [if_neg c15] at H
   have c15b0 : (t160 == 0) = false := beq_eq_false_iff_ne.mpr c15
   have c15b1 : (t160 != 0) = true := bne_iff_ne.mpr c15
   (first|rw [c15b0]|(simp only [i64_w,i32_w];rw [c15b0])|rw [c15b1]|skip)
   have H' := Aside0.mk H
   clear H
   go_wp2
   go_meet
   case rel => exact ⟨_,(true),(by first|rfl|(simp;done)|(simp [*];done)),H',⟨by first|omega|exact Nat.le_refl _⟩,⟨by (with_reducible repeat (first|apply Kd.R_alloc|apply Kd.R_drewN|apply Kd.R_drew));exact Kd.R_mono HO155.out (fun _ hk => hk.1.2)⟩,⟨by (with_reducible repeat (first|apply Kd.R_alloc|apply Kd.R_drewN|apply Kd.R_drew));exact Kd.R_mono HO162.out (fun _ hk => hk.1.2)⟩,⟨bM HB.out⟩⟩
 case rest =>
  clear HC3
  try clear c1
  try clear c2
  try clear p2
  try clear c11
  try clear c15
  try clear c15b0
  try clear c15b1
  try clear c16
  try clear c16b0
  try clear c16b1
  obtain ⟨kq,x44_2,rfl,HA,HJ2,HO_1,HO_2,HB⟩ := hcut
  cases kq with
 |zero => exact absurd HA.out (by simp [codesearchlaw25_alive.j0])
 |succ kj2 =>
   have H := HA.out
   clear HA
   simp only [codesearchlaw25_alive.j0] at H
   by_cases c22 : x44_2 = true
   ·subst c22
    have H1 : (some false) = some r := by rw [if_pos rfl] at H;exact H
    clear H
    have H := H1
    clear H1
    obtain rfl := Option.some.inj H
    go_wp2
    go_ret
    exact ⟨by first|rfl|(simp [errW_none,errW_some] <;> rfl)|(simp [*,errW_none,errW_some] <;> rfl),bM HB.out⟩
   ·replace c22 := Bool.eq_false_iff.mpr c22
    subst c22
    have H1 : ((tree_Right.f kj2 (([(⟨(⟨#[97,47,98]⟩ : ByteArray),1⟩ : S45),(⟨(⟨#[97,46,99]⟩ : ByteArray),2⟩ : S45)] : List (S45)))).bind fun t177 => (if t177 = 7 then ((tree_Right.f kj2 (([(⟨(⟨#[97]⟩ : ByteArray),1⟩ : S45),(⟨(⟨#[97,47,98]⟩ : ByteArray),2⟩ : S45)] : List (S45)))).bind fun t181 => (codesearchlaw25_alive.j1 kj2 y153 t159 (t181 != 14))) else (codesearchlaw25_alive.j1 kj2 y153 t159 true))) = some r := by rw [if_neg (show ¬ (false = true) by decide)] at H;exact H
    clear H
    have H := H1
    clear H1
    have HC23 := Aside0.mk H
    clear H
    go_upto_region 6 with (fail)
    go_cut [56] (fun v56 wc => ∃ (kq : Nat) (x56_22 : Bool),v56 = .bool x56_22 ∧ Aside0 (codesearchlaw25_alive.j1 kq y153 t159 x56_22 = some r) ∧ Aside0 (kq ≤ kj2) ∧ Aside0 (Kd.R k45 45 wc w.heap.size (fun k_ => some k_ ≠ (v161 : Value).ownBlock) (.slice Ao8 y153.length co8) y153) ∧ Aside0 (Kd.R k45 45 wc w.heap.size (fun k_ => some k_ ≠ ((.slice Ao8 y153.length co8) : Value).ownBlock) v161 t159) ∧ Aside0 (Below w.heap.size w wc))
    case first =>
     have H := HC23.out
     clear HC23
     obtain ⟨y174,hy174⟩ : ∃ y_ : List (S45),y_ = (([(⟨(⟨#[97,47,98]⟩ : ByteArray),1⟩ : S45),(⟨(⟨#[97,46,99]⟩ : ByteArray),2⟩ : S45)] : List (S45))) := ⟨_,rfl⟩
     replace H : ((tree_Right.f kj2 y174).bind fun t177 => (if t177 = 7 then ((tree_Right.f kj2 (([(⟨(⟨#[97]⟩ : ByteArray),1⟩ : S45),(⟨(⟨#[97,47,98]⟩ : ByteArray),2⟩ : S45)] : List (S45)))).bind fun t181 => (codesearchlaw25_alive.j1 kj2 y153 t159 (t181 != 14))) else (codesearchlaw25_alive.j1 kj2 y153 t159 true))) = some r := by first|(rw [hy174];with_reducible exact H)|(have H2_ := (Option.bind_some _ _).symm.trans H;rw [hy174];with_reducible exact H2_)|(have H2_ := (Option.bind_some _ _).symm.trans H;with_reducible exact H2_)|with_reducible exact H|(rw [hy174];exact H)|exact H
     have Ny174 := Aside0.mk hy174
     clear hy174
     replace H := Option.bind_eq_some_iff.mp H
     obtain ⟨t177,A240,H⟩ := H
     replace H : (if t177 = 7 then ((tree_Right.f kj2 (([(⟨(⟨#[97]⟩ : ByteArray),1⟩ : S45),(⟨(⟨#[97,47,98]⟩ : ByteArray),2⟩ : S45)] : List (S45)))).bind fun t181 => (codesearchlaw25_alive.j1 kj2 y153 t159 (t181 != 14))) else (codesearchlaw25_alive.j1 kj2 y153 t159 true)) = some r := H
     have A24 := Aside0.mk A240
     clear A240
     by_cases c25 : t177 = 7
     ·rw [if_pos c25] at H
      have c25b0 : (t177 == 7) = true := beq_iff_eq.mpr c25
      have c25b1 : (t177 != 7) = false := bne_eq_false_iff_eq.mpr c25
      clear c25
      (first|rw [c25b0]|(simp only [i64_w,i32_w];rw [c25b0])|rw [c25b1]|skip)
      obtain ⟨y178,hy178⟩ : ∃ y_ : List (S45),y_ = (([(⟨(⟨#[97]⟩ : ByteArray),1⟩ : S45),(⟨(⟨#[97,47,98]⟩ : ByteArray),2⟩ : S45)] : List (S45))) := ⟨_,rfl⟩
      replace H : ((tree_Right.f kj2 y178).bind fun t181 => (codesearchlaw25_alive.j1 kj2 y153 t159 (t181 != 14))) = some r := by first|(rw [hy178];with_reducible exact H)|(have H2_ := (Option.bind_some _ _).symm.trans H;rw [hy178];with_reducible exact H2_)|(have H2_ := (Option.bind_some _ _).symm.trans H;with_reducible exact H2_)|with_reducible exact H|(rw [hy178];exact H)|exact H
      have Ny178 := Aside0.mk hy178
      clear hy178
      replace H := Option.bind_eq_some_iff.mp H
      obtain ⟨t181,A260,H⟩ := H
      replace H : (codesearchlaw25_alive.j1 kj2 y153 t159 (t181 != 14)) = some r := H
      have A26 := Aside0.mk A260
      clear A260
      have H' := Aside0.mk H
      clear H
      go_wp2_with (first|((with_reducible refine gate_dst (N := 47) rfl ?_);(try (refine gate_guard (by rfl) ?_;dsimp only));refine Kd.R_lit k45 _ 45 ?hg (N := 47) ?hd (xs := ([(⟨(⟨#[97,47,98]⟩ : ByteArray),1⟩ : S45),(⟨(⟨#[97,46,99]⟩ : ByteArray),2⟩ : S45)] : List (S45))) (inner := [.string (⟨#[97,47,98]⟩ : ByteArray),.int .i64 1,.string (⟨#[97,46,99]⟩ : ByteArray),.int .i64 2]) (ok := fun _ => True) (okp := fun _ => True) ?hr ?hp (fun _ hk => hk) trivial (Below.refl _ _) (Nat.le_refl _) (by simp) ?_;(case hd => rfl);(case hg => rfl);(case hr => first|(go_simp;done)|(go_simp;rfl));(case hp => exact (Reps.c2 (show Kd.M k45 _ _ _ (⟨(⟨#[97,47,98]⟩ : ByteArray),1⟩ : S45) [.string (⟨#[97,47,98]⟩ : ByteArray),.int .i64 1] from (k45_mkM _ _ _ (⟨(⟨#[97,47,98]⟩ : ByteArray),1⟩ : S45) )) (Reps.c2 (show Kd.M k45 _ _ _ (⟨(⟨#[97,46,99]⟩ : ByteArray),2⟩ : S45) [.string (⟨#[97,46,99]⟩ : ByteArray),.int .i64 2] from (k45_mkM _ _ _ (⟨(⟨#[97,46,99]⟩ : ByteArray),2⟩ : S45) )) (Reps.none _ _))));intro v175 w27 ho28 hb hg_ hnew_;clear hg_ hnew_;(first|rw [← Ny174.out] at ho28|(simp only [Int.reduceToNat] at ho28;rw [← Ny174.out] at ho28));have n0_ := Aside0.mk (Kd.R_elder' (rM HO_1.out) (Kd.R_base ho28) hb);have n1_ := Aside0.mk (Kd.R_elder' (rM HO_2.out) (Kd.R_base ho28) hb);have n2_ := Aside0.mk (Kd.R_lower (Kd.R_new' (Kd.R_new' ho28 (Kd.R_lt (rM HO_1.out))) (Kd.R_lt (rM HO_2.out))) (below_size (bM HB.out)));have n3_ := Aside0.mk (below_step (bM HB.out) hb);clear HO_1;clear HO_2;clear HB;have HO_1 := n0_;have HO_2 := n1_;have HO176 := n2_;have HB := n3_;clear n0_ n1_ n2_ n3_;clear hb ho28;obtain ⟨Ao29,co29,eo29⟩ := Kd.R_slice HO176.out;subst eo29)|((with_reducible refine gate_callee (f := 12) rfl ?_);refine goesL_ (some 48) rfl rfl Tryd.func12 (by kernel_rfl) rfl #[.slice Ao29 y174.length co29] rfl (by (try simp only [List.map_toArray,List.map_cons,List.map_nil]);first|done|rfl|(simp only [List.length_drop,List.length_take];rfl)) ?_;(with_reducible refine (tree_Right.calls kj2 _ _ y174 t177 _ ?side1 ?side2 A24.out).mono ?_);(case side1 => exact cM (Kd.R_reads' HO176.out).2.2);(case side2 => exact (Kd.R_reads' HO176.out).2.1);rintro e w30 ⟨rfl,hb⟩;refine ⟨_,rfl,?_⟩;have n0_ := Aside0.mk (Kd.R_below (rM HO_1.out) hb);have n1_ := Aside0.mk (Kd.R_below (rM HO_2.out) hb);have n2_ := Aside0.mk (Kd.R_below (rM HO176.out) hb);have n3_ := Aside0.mk (below_step (bM HB.out) hb);clear HO_1;clear HO_2;clear HO176;clear HB;have HO_1 := n0_;have HO_2 := n1_;have HO176 := n2_;have HB := n3_;clear n0_ n1_ n2_ n3_;(try clear hb);(try clear hb2);(try clear hk);(try clear hi))|((with_reducible refine gate_dst (N := 53) rfl ?_);(try (refine gate_guard (by rfl) ?_;dsimp only));refine Kd.R_lit k45 _ 45 ?hg (N := 53) ?hd (xs := ([(⟨(⟨#[97]⟩ : ByteArray),1⟩ : S45),(⟨(⟨#[97,47,98]⟩ : ByteArray),2⟩ : S45)] : List (S45))) (inner := [.string (⟨#[97]⟩ : ByteArray),.int .i64 1,.string (⟨#[97,47,98]⟩ : ByteArray),.int .i64 2]) (ok := fun _ => True) (okp := fun _ => True) ?hr ?hp (fun _ hk => hk) trivial (Below.refl _ _) (Nat.le_refl _) (by simp) ?_;(case hd => rfl);(case hg => rfl);(case hr => first|(go_simp;done)|(go_simp;rfl));(case hp => exact (Reps.c2 (show Kd.M k45 _ _ _ (⟨(⟨#[97]⟩ : ByteArray),1⟩ : S45) [.string (⟨#[97]⟩ : ByteArray),.int .i64 1] from (k45_mkM _ _ _ (⟨(⟨#[97]⟩ : ByteArray),1⟩ : S45) )) (Reps.c2 (show Kd.M k45 _ _ _ (⟨(⟨#[97,47,98]⟩ : ByteArray),2⟩ : S45) [.string (⟨#[97,47,98]⟩ : ByteArray),.int .i64 2] from (k45_mkM _ _ _ (⟨(⟨#[97,47,98]⟩ : ByteArray),2⟩ : S45) )) (Reps.none _ _))));intro v179 w31 ho32 hb hg_ hnew_;clear hg_ hnew_;(first|rw [← Ny178.out] at ho32|(simp only [Int.reduceToNat] at ho32;rw [← Ny178.out] at ho32));have n0_ := Aside0.mk (Kd.R_elder' (rM HO_1.out) (Kd.R_base ho32) hb);have n1_ := Aside0.mk (Kd.R_elder' (rM HO_2.out) (Kd.R_base ho32) hb);have n2_ := Aside0.mk (Kd.R_elder' (rM HO176.out) (Kd.R_base ho32) hb);have n3_ := Aside0.mk (Kd.R_lower (Kd.R_new' (Kd.R_new' (Kd.R_new' ho32 (Kd.R_lt (rM HO_1.out))) (Kd.R_lt (rM HO_2.out))) (Kd.R_lt (rM HO176.out))) (below_size (bM HB.out)));have n4_ := Aside0.mk (below_step (bM HB.out) hb);clear HO_1;clear HO_2;clear HO176;clear HB;have HO_1 := n0_;have HO_2 := n1_;have HO176 := n2_;have HO180 := n3_;have HB := n4_;clear n0_ n1_ n2_ n3_ n4_;clear hb ho32;obtain ⟨Ao33,co33,eo33⟩ := Kd.R_slice HO180.out;subst eo33)|(go_at_call 12;(with_reducible refine (tree_Right.calls kj2 _ _ y178 t181 _ ?side1 ?side2 A26.out).mono ?_);(case side1 => exact cM (Kd.R_reads' HO180.out).2.2);(case side2 => exact (Kd.R_reads' HO180.out).2.1);rintro e w34 ⟨rfl,hb⟩;have n0_ := Aside0.mk (Kd.R_below (rM HO_1.out) hb);have n1_ := Aside0.mk (Kd.R_below (rM HO_2.out) hb);have n2_ := Aside0.mk (Kd.R_below (rM HO176.out) hb);have n3_ := Aside0.mk (Kd.R_below (rM HO180.out) hb);have n4_ := Aside0.mk (below_step (bM HB.out) hb);clear HO_1;clear HO_2;clear HO176;clear HO180;clear HB;have HO_1 := n0_;have HO_2 := n1_;have HO176 := n2_;have HO180 := n3_;have HB := n4_;clear n0_ n1_ n2_ n3_ n4_;(try clear hb);(try clear hb2);(try clear hk);(try clear hi)))
      go_meet
      case rel => exact ⟨_,((t181 != 14)),(by first|rfl|(simp;done)|(simp [*];done)),H',⟨by have := HJ2.out;first|omega|exact Nat.le_refl _⟩,⟨by (with_reducible repeat (first|apply Kd.R_alloc|apply Kd.R_drewN|apply Kd.R_drew));exact Kd.R_mono HO_1.out (fun _ hk => hk.1.1)⟩,⟨by (with_reducible repeat (first|apply Kd.R_alloc|apply Kd.R_drewN|apply Kd.R_drew));exact Kd.R_mono HO_2.out (fun _ hk => hk.1.1)⟩,⟨bM HB.out⟩⟩
     ·rw [if_neg c25] at H
      have c25b0 : (t177 == 7) = false := beq_eq_false_iff_ne.mpr c25
      have c25b1 : (t177 != 7) = true := bne_iff_ne.mpr c25
      (first|rw [c25b0]|(simp only [i64_w,i32_w];rw [c25b0])|rw [c25b1]|skip)
      have H' := Aside0.mk H
      clear H
      go_wp2_with (first|((with_reducible refine gate_dst (N := 47) rfl ?_);(try (refine gate_guard (by rfl) ?_;dsimp only));refine Kd.R_lit k45 _ 45 ?hg (N := 47) ?hd (xs := ([(⟨(⟨#[97,47,98]⟩ : ByteArray),1⟩ : S45),(⟨(⟨#[97,46,99]⟩ : ByteArray),2⟩ : S45)] : List (S45))) (inner := [.string (⟨#[97,47,98]⟩ : ByteArray),.int .i64 1,.string (⟨#[97,46,99]⟩ : ByteArray),.int .i64 2]) (ok := fun _ => True) (okp := fun _ => True) ?hr ?hp (fun _ hk => hk) trivial (Below.refl _ _) (Nat.le_refl _) (by simp) ?_;(case hd => rfl);(case hg => rfl);(case hr => first|(go_simp;done)|(go_simp;rfl));(case hp => exact (Reps.c2 (show Kd.M k45 _ _ _ (⟨(⟨#[97,47,98]⟩ : ByteArray),1⟩ : S45) [.string (⟨#[97,47,98]⟩ : ByteArray),.int .i64 1] from (k45_mkM _ _ _ (⟨(⟨#[97,47,98]⟩ : ByteArray),1⟩ : S45) )) (Reps.c2 (show Kd.M k45 _ _ _ (⟨(⟨#[97,46,99]⟩ : ByteArray),2⟩ : S45) [.string (⟨#[97,46,99]⟩ : ByteArray),.int .i64 2] from (k45_mkM _ _ _ (⟨(⟨#[97,46,99]⟩ : ByteArray),2⟩ : S45) )) (Reps.none _ _))));intro v175 w35 ho36 hb hg_ hnew_;clear hg_ hnew_;(first|rw [← Ny174.out] at ho36|(simp only [Int.reduceToNat] at ho36;rw [← Ny174.out] at ho36));have n0_ := Aside0.mk (Kd.R_elder' (rM HO_1.out) (Kd.R_base ho36) hb);have n1_ := Aside0.mk (Kd.R_elder' (rM HO_2.out) (Kd.R_base ho36) hb);have n2_ := Aside0.mk (Kd.R_lower (Kd.R_new' (Kd.R_new' ho36 (Kd.R_lt (rM HO_1.out))) (Kd.R_lt (rM HO_2.out))) (below_size (bM HB.out)));have n3_ := Aside0.mk (below_step (bM HB.out) hb);clear HO_1;clear HO_2;clear HB;have HO_1 := n0_;have HO_2 := n1_;have HO176 := n2_;have HB := n3_;clear n0_ n1_ n2_ n3_;clear hb ho36;obtain ⟨Ao37,co37,eo37⟩ := Kd.R_slice HO176.out;subst eo37)|((with_reducible refine gate_callee (f := 12) rfl ?_);refine goesL_ (some 48) rfl rfl Tryd.func12 (by kernel_rfl) rfl #[.slice Ao37 y174.length co37] rfl (by (try simp only [List.map_toArray,List.map_cons,List.map_nil]);first|done|rfl|(simp only [List.length_drop,List.length_take];rfl)) ?_;(with_reducible refine (tree_Right.calls kj2 _ _ y174 t177 _ ?side1 ?side2 A24.out).mono ?_);(case side1 => exact cM (Kd.R_reads' HO176.out).2.2);(case side2 => exact (Kd.R_reads' HO176.out).2.1);rintro e w38 ⟨rfl,hb⟩;refine ⟨_,rfl,?_⟩;have n0_ := Aside0.mk (Kd.R_below (rM HO_1.out) hb);have n1_ := Aside0.mk (Kd.R_below (rM HO_2.out) hb);have n2_ := Aside0.mk (Kd.R_below (rM HO176.out) hb);have n3_ := Aside0.mk (below_step (bM HB.out) hb);clear HO_1;clear HO_2;clear HO176;clear HB;have HO_1 := n0_;have HO_2 := n1_;have HO176 := n2_;have HB := n3_;clear n0_ n1_ n2_ n3_;(try clear hb);(try clear hb2);(try clear hk);(try clear hi)))
      go_meet
      case rel => exact ⟨_,(true),(by first|rfl|(simp;done)|(simp [*];done)),H',⟨by have := HJ2.out;first|omega|exact Nat.le_refl _⟩,⟨by (with_reducible repeat (first|apply Kd.R_alloc|apply Kd.R_drewN|apply Kd.R_drew));exact Kd.R_mono HO_1.out (fun _ hk => hk.1)⟩,⟨by (with_reducible repeat (first|apply Kd.R_alloc|apply Kd.R_drewN|apply Kd.R_drew));exact Kd.R_mono HO_2.out (fun _ hk => hk.1)⟩,⟨bM HB.out⟩⟩
    case rest =>
     clear HC23
     try clear c1
     try clear c2
     try clear p2
     try clear c11
     try clear c12
     try clear c15
     try clear c15b0
     try clear c15b1
     try clear c16
     try clear c16b0
     try clear c16b1
     try clear c22
     try clear c25
     try clear c25b0
     try clear c25b1
     try clear p2
     obtain ⟨kq,x56_22,rfl,HA,HJ22,HO_1,HO_2,HB⟩ := hcut
     cases kq with
    |zero => exact absurd HA.out (by simp [codesearchlaw25_alive.j1])
    |succ kj22 =>
      have H := HA.out
      clear HA
      simp only [codesearchlaw25_alive.j1] at H
      by_cases c39 : x56_22 = true
      ·subst c39
       have H1 : (some false) = some r := by rw [if_pos rfl] at H;exact H
       clear H
       have H := H1
       clear H1
       obtain rfl := Option.some.inj H
       go_wp2
       go_ret
       exact ⟨by first|rfl|(simp [errW_none,errW_some] <;> rfl)|(simp [*,errW_none,errW_some] <;> rfl),bM HB.out⟩
      ·replace c39 := Bool.eq_false_iff.mpr c39
       subst c39
       have H1 : ((some (([(⟨(⟨#[97,47,120]⟩ : ByteArray),1⟩ : S45),(⟨(⟨#[97,47,121,47,122]⟩ : ByteArray),1⟩ : S45),(⟨(⟨#[98]⟩ : ByteArray),1⟩ : S45)] : List (S45)) : List (S45))).bind fun y182 => ((tree_Names.f kj22 y182 (⟨#[]⟩ : ByteArray)).bind fun t185 => ((codesearchref01_Strings.f kj22 t185 (([(⟨#[97]⟩ : ByteArray),(⟨#[98]⟩ : ByteArray)] : List ByteArray))).bind fun t191 => (if t191 = true then ((tree_Names.f kj22 y182 (⟨#[97]⟩ : ByteArray)).bind fun t192 => ((codesearchref01_Strings.f kj22 t192 (([(⟨#[120]⟩ : ByteArray),(⟨#[121]⟩ : ByteArray)] : List ByteArray))).bind fun t198 => (if t198 = true then ((tree_Under.f kj22 y182 (⟨#[97]⟩ : ByteArray)).bind fun t199 => (codesearchlaw25_alive.j2 kj22 y153 t159 y182 ((t199.length : Int) != 2))) else (codesearchlaw25_alive.j2 kj22 y153 t159 y182 true)))) else (codesearchlaw25_alive.j2 kj22 y153 t159 y182 true))))) = some r := by rw [if_neg (show ¬ (false = true) by decide)] at H;exact H
       clear H
       have H := H1
       clear H1
       obtain ⟨y182,hy182⟩ : ∃ y_ : List (S45),y_ = (([(⟨(⟨#[97,47,120]⟩ : ByteArray),1⟩ : S45),(⟨(⟨#[97,47,121,47,122]⟩ : ByteArray),1⟩ : S45),(⟨(⟨#[98]⟩ : ByteArray),1⟩ : S45)] : List (S45))) := ⟨_,rfl⟩
       replace H : ((tree_Names.f kj22 y182 (⟨#[]⟩ : ByteArray)).bind fun t185 => ((codesearchref01_Strings.f kj22 t185 (([(⟨#[97]⟩ : ByteArray),(⟨#[98]⟩ : ByteArray)] : List ByteArray))).bind fun t191 => (if t191 = true then ((tree_Names.f kj22 y182 (⟨#[97]⟩ : ByteArray)).bind fun t192 => ((codesearchref01_Strings.f kj22 t192 (([(⟨#[120]⟩ : ByteArray),(⟨#[121]⟩ : ByteArray)] : List ByteArray))).bind fun t198 => (if t198 = true then ((tree_Under.f kj22 y182 (⟨#[97]⟩ : ByteArray)).bind fun t199 => (codesearchlaw25_alive.j2 kj22 y153 t159 y182 ((t199.length : Int) != 2))) else (codesearchlaw25_alive.j2 kj22 y153 t159 y182 true)))) else (codesearchlaw25_alive.j2 kj22 y153 t159 y182 true)))) = some r := by first|(rw [hy182];with_reducible exact H)|(have H2_ := (Option.bind_some _ _).symm.trans H;rw [hy182];with_reducible exact H2_)|(have H2_ := (Option.bind_some _ _).symm.trans H;with_reducible exact H2_)|with_reducible exact H|(rw [hy182];exact H)|exact H
       have Ny182 := Aside0.mk hy182
       clear hy182
       have HC40 := Aside0.mk H
       clear H
       go_upto_region 9 with (first|((with_reducible refine gate_dst (N := 60) rfl ?_);(try (refine gate_guard (by rfl) ?_;dsimp only));refine Kd.R_lit k45 _ 45 ?hg (N := 60) ?hd (xs := ([(⟨(⟨#[97,47,120]⟩ : ByteArray),1⟩ : S45),(⟨(⟨#[97,47,121,47,122]⟩ : ByteArray),1⟩ : S45),(⟨(⟨#[98]⟩ : ByteArray),1⟩ : S45)] : List (S45))) (inner := [.string (⟨#[97,47,120]⟩ : ByteArray),.int .i64 1,.string (⟨#[97,47,121,47,122]⟩ : ByteArray),.int .i64 1,.string (⟨#[98]⟩ : ByteArray),.int .i64 1]) (ok := fun _ => True) (okp := fun _ => True) ?hr ?hp (fun _ hk => hk) trivial (Below.refl _ _) (Nat.le_refl _) (by simp) ?_;(case hd => rfl);(case hg => rfl);(case hr => first|(go_simp;done)|(go_simp;rfl));(case hp => exact (Reps.c2 (show Kd.M k45 _ _ _ (⟨(⟨#[97,47,120]⟩ : ByteArray),1⟩ : S45) [.string (⟨#[97,47,120]⟩ : ByteArray),.int .i64 1] from (k45_mkM _ _ _ (⟨(⟨#[97,47,120]⟩ : ByteArray),1⟩ : S45) )) (Reps.c2 (show Kd.M k45 _ _ _ (⟨(⟨#[97,47,121,47,122]⟩ : ByteArray),1⟩ : S45) [.string (⟨#[97,47,121,47,122]⟩ : ByteArray),.int .i64 1] from (k45_mkM _ _ _ (⟨(⟨#[97,47,121,47,122]⟩ : ByteArray),1⟩ : S45) )) (Reps.c2 (show Kd.M k45 _ _ _ (⟨(⟨#[98]⟩ : ByteArray),1⟩ : S45) [.string (⟨#[98]⟩ : ByteArray),.int .i64 1] from (k45_mkM _ _ _ (⟨(⟨#[98]⟩ : ByteArray),1⟩ : S45) )) (Reps.none _ _)))));intro v183 w41 ho42 hb hg_ hnew_;clear hg_ hnew_;(first|rw [← Ny182.out] at ho42|(simp only [Int.reduceToNat] at ho42;rw [← Ny182.out] at ho42));have n0_ := Aside0.mk (Kd.R_elder' (rM HO_1.out) (Kd.R_base ho42) hb);have n1_ := Aside0.mk (Kd.R_elder' (rM HO_2.out) (Kd.R_base ho42) hb);have n2_ := Aside0.mk (Kd.R_lower (Kd.R_new' (Kd.R_new' ho42 (Kd.R_lt (rM HO_1.out))) (Kd.R_lt (rM HO_2.out))) (below_size (bM HB.out)));have n3_ := Aside0.mk (below_step (bM HB.out) hb);clear HO_1;clear HO_2;clear HB;have HO_1 := n0_;have HO_2 := n1_;have HO184 := n2_;have HB := n3_;clear n0_ n1_ n2_ n3_;clear hb ho42))
       (try simp only [Act.put,List.setIfInBounds_toArray,List.set_cons_zero,List.set_cons_succ])
       go_cut [78] (fun v78 wc => ∃ (kq : Nat) (x78_39 : Bool),v78 = .bool x78_39 ∧ Aside0 (codesearchlaw25_alive.j2 kq y153 t159 y182 x78_39 = some r) ∧ Aside0 (kq ≤ kj22) ∧ Aside0 (Kd.R k45 45 wc w.heap.size (fun k_ => some k_ ≠ (v161 : Value).ownBlock ∧ some k_ ≠ (v183 : Value).ownBlock) (.slice Ao8 y153.length co8) y153) ∧ Aside0 (Kd.R k45 45 wc w.heap.size (fun k_ => some k_ ≠ ((.slice Ao8 y153.length co8) : Value).ownBlock ∧ some k_ ≠ (v183 : Value).ownBlock) v161 t159) ∧ Aside0 (Kd.R k45 45 wc w.heap.size (fun k_ => some k_ ≠ ((.slice Ao8 y153.length co8) : Value).ownBlock ∧ some k_ ≠ (v161 : Value).ownBlock) v183 y182) ∧ Aside0 (Below w.heap.size w wc))
       case first =>
        have H := HC40.out
        clear HC40
        replace H := Option.bind_eq_some_iff.mp H
        obtain ⟨t185,A430,H⟩ := H
        replace H : ((codesearchref01_Strings.f kj22 t185 (([(⟨#[97]⟩ : ByteArray),(⟨#[98]⟩ : ByteArray)] : List ByteArray))).bind fun t191 => (if t191 = true then ((tree_Names.f kj22 y182 (⟨#[97]⟩ : ByteArray)).bind fun t192 => ((codesearchref01_Strings.f kj22 t192 (([(⟨#[120]⟩ : ByteArray),(⟨#[121]⟩ : ByteArray)] : List ByteArray))).bind fun t198 => (if t198 = true then ((tree_Under.f kj22 y182 (⟨#[97]⟩ : ByteArray)).bind fun t199 => (codesearchlaw25_alive.j2 kj22 y153 t159 y182 ((t199.length : Int) != 2))) else (codesearchlaw25_alive.j2 kj22 y153 t159 y182 true)))) else (codesearchlaw25_alive.j2 kj22 y153 t159 y182 true))) = some r := H
        have A43 := Aside0.mk A430
        clear A430
        obtain ⟨y188,hy188⟩ : ∃ y_ : List ByteArray,y_ = (([(⟨#[97]⟩ : ByteArray),(⟨#[98]⟩ : ByteArray)] : List ByteArray)) := ⟨_,rfl⟩
        replace H : ((codesearchref01_Strings.f kj22 t185 y188).bind fun t191 => (if t191 = true then ((tree_Names.f kj22 y182 (⟨#[97]⟩ : ByteArray)).bind fun t192 => ((codesearchref01_Strings.f kj22 t192 (([(⟨#[120]⟩ : ByteArray),(⟨#[121]⟩ : ByteArray)] : List ByteArray))).bind fun t198 => (if t198 = true then ((tree_Under.f kj22 y182 (⟨#[97]⟩ : ByteArray)).bind fun t199 => (codesearchlaw25_alive.j2 kj22 y153 t159 y182 ((t199.length : Int) != 2))) else (codesearchlaw25_alive.j2 kj22 y153 t159 y182 true)))) else (codesearchlaw25_alive.j2 kj22 y153 t159 y182 true))) = some r := by first|(rw [hy188];with_reducible exact H)|(have H2_ := (Option.bind_some _ _).symm.trans H;rw [hy188];with_reducible exact H2_)|(have H2_ := (Option.bind_some _ _).symm.trans H;with_reducible exact H2_)|with_reducible exact H|(rw [hy188];exact H)|exact H
        have Ny188 := Aside0.mk hy188
        clear hy188
        replace H := Option.bind_eq_some_iff.mp H
        obtain ⟨t191,A440,H⟩ := H
        replace H : (if t191 = true then ((tree_Names.f kj22 y182 (⟨#[97]⟩ : ByteArray)).bind fun t192 => ((codesearchref01_Strings.f kj22 t192 (([(⟨#[120]⟩ : ByteArray),(⟨#[121]⟩ : ByteArray)] : List ByteArray))).bind fun t198 => (if t198 = true then ((tree_Under.f kj22 y182 (⟨#[97]⟩ : ByteArray)).bind fun t199 => (codesearchlaw25_alive.j2 kj22 y153 t159 y182 ((t199.length : Int) != 2))) else (codesearchlaw25_alive.j2 kj22 y153 t159 y182 true)))) else (codesearchlaw25_alive.j2 kj22 y153 t159 y182 true)) = some r := H
        have A44 := Aside0.mk A440
        clear A440
        by_cases c45 : t191 = true
        ·subst c45
         have H1 : ((tree_Names.f kj22 y182 (⟨#[97]⟩ : ByteArray)).bind fun t192 => ((codesearchref01_Strings.f kj22 t192 (([(⟨#[120]⟩ : ByteArray),(⟨#[121]⟩ : ByteArray)] : List ByteArray))).bind fun t198 => (if t198 = true then ((tree_Under.f kj22 y182 (⟨#[97]⟩ : ByteArray)).bind fun t199 => (codesearchlaw25_alive.j2 kj22 y153 t159 y182 ((t199.length : Int) != 2))) else (codesearchlaw25_alive.j2 kj22 y153 t159 y182 true)))) = some r := by rw [if_pos rfl] at H;exact H
         clear H
         have H := H1
         clear H1
         replace H := Option.bind_eq_some_iff.mp H
         obtain ⟨t192,A460,H⟩ := H
         replace H : ((codesearchref01_Strings.f kj22 t192 (([(⟨#[120]⟩ : ByteArray),(⟨#[121]⟩ : ByteArray)] : List ByteArray))).bind fun t198 => (if t198 = true then ((tree_Under.f kj22 y182 (⟨#[97]⟩ : ByteArray)).bind fun t199 => (codesearchlaw25_alive.j2 kj22 y153 t159 y182 ((t199.length : Int) != 2))) else (codesearchlaw25_alive.j2 kj22 y153 t159 y182 true))) = some r := H
         have A46 := Aside0.mk A460
         clear A460
         obtain ⟨y195,hy195⟩ : ∃ y_ : List ByteArray,y_ = (([(⟨#[120]⟩ : ByteArray),(⟨#[121]⟩ : ByteArray)] : List ByteArray)) := ⟨_,rfl⟩
         replace H : ((codesearchref01_Strings.f kj22 t192 y195).bind fun t198 => (if t198 = true then ((tree_Under.f kj22 y182 (⟨#[97]⟩ : ByteArray)).bind fun t199 => (codesearchlaw25_alive.j2 kj22 y153 t159 y182 ((t199.length : Int) != 2))) else (codesearchlaw25_alive.j2 kj22 y153 t159 y182 true))) = some r := by first|(rw [hy195];with_reducible exact H)|(have H2_ := (Option.bind_some _ _).symm.trans H;rw [hy195];with_reducible exact H2_)|(have H2_ := (Option.bind_some _ _).symm.trans H;with_reducible exact H2_)|with_reducible exact H|(rw [hy195];exact H)|exact H
         have Ny195 := Aside0.mk hy195
         clear hy195
         replace H := Option.bind_eq_some_iff.mp H
         obtain ⟨t198,A470,H⟩ := H
         replace H : (if t198 = true then ((tree_Under.f kj22 y182 (⟨#[97]⟩ : ByteArray)).bind fun t199 => (codesearchlaw25_alive.j2 kj22 y153 t159 y182 ((t199.length : Int) != 2))) else (codesearchlaw25_alive.j2 kj22 y153 t159 y182 true)) = some r := H
         have A47 := Aside0.mk A470
         clear A470
         by_cases c48 : t198 = true
         ·subst c48
          have H1 : ((tree_Under.f kj22 y182 (⟨#[97]⟩ : ByteArray)).bind fun t199 => (codesearchlaw25_alive.j2 kj22 y153 t159 y182 ((t199.length : Int) != 2))) = some r := by rw [if_pos rfl] at H;exact H
          clear H
          have H := H1
          clear H1
          replace H := Option.bind_eq_some_iff.mp H
          obtain ⟨t199,A490,H⟩ := H
          replace H : (codesearchlaw25_alive.j2 kj22 y153 t159 y182 ((t199.length : Int) != 2)) = some r := H
          have A49 := Aside0.mk A490
          clear A490
          have H' := Aside0.mk H
          clear H
          obtain ⟨Ao50,co50,eo50⟩ := Kd.R_slice HO184.out
          subst eo50
          go_wp2_with (first|((with_reducible refine gate_callee (f := 26) rfl ?_);refine goesL_ (some 62) rfl rfl Tryd.func26 (by kernel_rfl) rfl #[.slice Ao50 y182.length co50,.string (⟨#[]⟩ : ByteArray)] rfl (by (try simp only [List.map_toArray,List.map_cons,List.map_nil]);first|done|rfl|(simp only [List.length_drop,List.length_take];rfl)) ?_;(with_reducible refine (tree_Names.calls kj22 _ _ y182 (⟨#[]⟩ : ByteArray) t185 _ ?side1 ?side2 A43.out).mono ?_);(case side1 => exact cM (Kd.R_reads' HO184.out).2.2);(case side2 => exact (Kd.R_reads' HO184.out).2.1);rintro e w51 ⟨v186,rfl,ho0,hb⟩;refine ⟨_,rfl,?_⟩;have n0_ := Aside0.mk (Kd.R_below (rM HO_1.out) hb);have n1_ := Aside0.mk (Kd.R_below (rM HO_2.out) hb);have n2_ := Aside0.mk (Kd.R_below (rM HO184.out) hb);have n3_ := Aside0.mk (Kd.R_lower ho0 (below_size (bM HB.out)));have n4_ := Aside0.mk (below_step (bM HB.out) hb);clear HO_1;clear HO_2;clear HO184;clear HB;have HO_1 := n0_;have HO_2 := n1_;have HO184 := n2_;have HO187 := n3_;have HB := n4_;clear n0_ n1_ n2_ n3_ n4_;(try clear hb);(try clear hb2);(try clear hk);(try clear hi);(try clear ho0))|((with_reducible refine gate_dst (N := 63) rfl ?_);(try (refine gate_guard (by rfl) ?_;dsimp only));refine Kd.R_lit Kd.string _ 9 ?hg (N := 63) ?hd (xs := ([(⟨#[97]⟩ : ByteArray),(⟨#[98]⟩ : ByteArray)] : List ByteArray)) (inner := [.string (⟨#[97]⟩ : ByteArray),.string (⟨#[98]⟩ : ByteArray)]) (ok := fun _ => True) (okp := fun _ => True) ?hr ?hp (fun _ hk => hk) trivial (Below.refl _ _) (Nat.le_refl _) (by simp) ?_;(case hd => rfl);(case hg => rfl);(case hr => first|(go_simp;done)|(go_simp;rfl));(case hp => exact (Reps.one (show Kd.M Kd.string _ _ _ (⟨#[97]⟩ : ByteArray) [.string (⟨#[97]⟩ : ByteArray)] from rfl) (Reps.one (show Kd.M Kd.string _ _ _ (⟨#[98]⟩ : ByteArray) [.string (⟨#[98]⟩ : ByteArray)] from rfl) (Reps.none _ _))));intro v189 w52 ho53 hb hg_ hnew_;clear hg_ hnew_;(first|rw [← Ny188.out] at ho53|(simp only [Int.reduceToNat] at ho53;rw [← Ny188.out] at ho53));have n0_ := Aside0.mk (Kd.R_below (rM HO_1.out) hb);have n1_ := Aside0.mk (Kd.R_below (rM HO_2.out) hb);have n2_ := Aside0.mk (Kd.R_below (rM HO184.out) hb);have n3_ := Aside0.mk (Kd.R_elder' (rM HO187.out) (Kd.R_base ho53) hb);have n4_ := Aside0.mk (Kd.R_lower (Kd.R_new' ho53 (Kd.R_lt (rM HO187.out))) (below_size (bM HB.out)));have n5_ := Aside0.mk (below_step (bM HB.out) hb);clear HO_1;clear HO_2;clear HO184;clear HO187;clear HB;have HO_1 := n0_;have HO_2 := n1_;have HO184 := n2_;have HO187 := n3_;have HO190 := n4_;have HB := n5_;clear n0_ n1_ n2_ n3_ n4_ n5_;clear hb ho53;obtain ⟨Ao54,co54,eo54⟩ := Kd.R_slice HO187.out;subst eo54;obtain ⟨Ao55,co55,eo55⟩ := Kd.R_slice HO190.out;subst eo55)|((with_reducible refine gate_callee (f := 25) rfl ?_);refine goesL_ (some 64) rfl rfl Tryd.func25 (by kernel_rfl) rfl #[.slice Ao54 t185.length co54,.slice Ao55 y188.length co55] rfl (by (try simp only [List.map_toArray,List.map_cons,List.map_nil]);first|done|rfl|(simp only [List.length_drop,List.length_take];rfl)) ?_;(with_reducible refine (codesearchref01_Strings.calls kj22 _ _ t185 _ _ y188 true _ ?side1 ?side2 ?side3 ?side4 A44.out).mono ?_);(case side1 => exact cM (Kd.R_reads' HO187.out).2.2);(case side2 => exact (Kd.R_reads' HO187.out).2.1);(case side3 => exact cM (Kd.R_reads' HO190.out).2.2);(case side4 => exact (Kd.R_reads' HO190.out).2.1);rintro e w' ⟨rfl,⟨nd,rfl⟩⟩;refine ⟨_,rfl,?_⟩)|(go_at_call 26;(with_reducible refine (tree_Names.calls kj22 _ _ y182 (⟨#[97]⟩ : ByteArray) t192 _ ?side1 ?side2 A46.out).mono ?_);(case side1 => exact cM (Kd.R_reads' HO184.out).2.2);(case side2 => exact (Kd.R_reads' HO184.out).2.1);rintro e w56 ⟨v193,rfl,ho0,hb⟩;have n0_ := Aside0.mk (Kd.R_below (rM HO_1.out) hb);have n1_ := Aside0.mk (Kd.R_below (rM HO_2.out) hb);have n2_ := Aside0.mk (Kd.R_below (rM HO184.out) hb);have n3_ := Aside0.mk (Kd.R_elder' (rM HO187.out) (Kd.R_base ho0) hb);have n4_ := Aside0.mk (Kd.R_elder' (rM HO190.out) (Kd.R_base ho0) hb);have n5_ := Aside0.mk (Kd.R_lower (Kd.R_new' (Kd.R_new' ho0 (Kd.R_lt (rM HO187.out))) (Kd.R_lt (rM HO190.out))) (below_size (bM HB.out)));have n6_ := Aside0.mk (below_step (bM HB.out) hb);clear HO_1;clear HO_2;clear HO184;clear HO187;clear HO190;clear HB;have HO_1 := n0_;have HO_2 := n1_;have HO184 := n2_;have HO187 := n3_;have HO190 := n4_;have HO194 := n5_;have HB := n6_;clear n0_ n1_ n2_ n3_ n4_ n5_ n6_;(try clear hb);(try clear hb2);(try clear hk);(try clear hi);(try clear ho0))|((with_reducible refine gate_dst (N := 69) rfl ?_);(try (refine gate_guard (by rfl) ?_;dsimp only));refine Kd.R_lit Kd.string _ 9 ?hg (N := 69) ?hd (xs := ([(⟨#[120]⟩ : ByteArray),(⟨#[121]⟩ : ByteArray)] : List ByteArray)) (inner := [.string (⟨#[120]⟩ : ByteArray),.string (⟨#[121]⟩ : ByteArray)]) (ok := fun _ => True) (okp := fun _ => True) ?hr ?hp (fun _ hk => hk) trivial (Below.refl _ _) (Nat.le_refl _) (by simp) ?_;(case hd => rfl);(case hg => rfl);(case hr => first|(go_simp;done)|(go_simp;rfl));(case hp => exact (Reps.one (show Kd.M Kd.string _ _ _ (⟨#[120]⟩ : ByteArray) [.string (⟨#[120]⟩ : ByteArray)] from rfl) (Reps.one (show Kd.M Kd.string _ _ _ (⟨#[121]⟩ : ByteArray) [.string (⟨#[121]⟩ : ByteArray)] from rfl) (Reps.none _ _))));intro v196 w57 ho58 hb hg_ hnew_;clear hg_ hnew_;(first|rw [← Ny195.out] at ho58|(simp only [Int.reduceToNat] at ho58;rw [← Ny195.out] at ho58));have n0_ := Aside0.mk (Kd.R_below (rM HO_1.out) hb);have n1_ := Aside0.mk (Kd.R_below (rM HO_2.out) hb);have n2_ := Aside0.mk (Kd.R_below (rM HO184.out) hb);have n3_ := Aside0.mk (Kd.R_elder' (rM HO187.out) (Kd.R_base ho58) hb);have n4_ := Aside0.mk (Kd.R_elder' (rM HO190.out) (Kd.R_base ho58) hb);have n5_ := Aside0.mk (Kd.R_elder' (rM HO194.out) (Kd.R_base ho58) hb);have n6_ := Aside0.mk (Kd.R_lower (Kd.R_new' (Kd.R_new' (Kd.R_new' ho58 (Kd.R_lt (rM HO187.out))) (Kd.R_lt (rM HO190.out))) (Kd.R_lt (rM HO194.out))) (below_size (bM HB.out)));have n7_ := Aside0.mk (below_step (bM HB.out) hb);clear HO_1;clear HO_2;clear HO184;clear HO187;clear HO190;clear HO194;clear HB;have HO_1 := n0_;have HO_2 := n1_;have HO184 := n2_;have HO187 := n3_;have HO190 := n4_;have HO194 := n5_;have HO197 := n6_;have HB := n7_;clear n0_ n1_ n2_ n3_ n4_ n5_ n6_ n7_;clear hb ho58;obtain ⟨Ao59,co59,eo59⟩ := Kd.R_slice HO194.out;subst eo59;obtain ⟨Ao60,co60,eo60⟩ := Kd.R_slice HO197.out;subst eo60)|(go_at_call 25;(with_reducible refine (codesearchref01_Strings.calls kj22 _ _ t192 _ _ y195 true _ ?side1 ?side2 ?side3 ?side4 A47.out).mono ?_);(case side1 => exact cM (Kd.R_reads' HO194.out).2.2);(case side2 => exact (Kd.R_reads' HO194.out).2.1);(case side3 => exact cM (Kd.R_reads' HO197.out).2.2);(case side4 => exact (Kd.R_reads' HO197.out).2.1);rintro e w' ⟨rfl,⟨nd,rfl⟩⟩)|(go_at_call 23;(with_reducible refine (tree_Under.calls kj22 _ _ y182 (⟨#[97]⟩ : ByteArray) t199 _ ?side1 ?side2 A49.out).mono ?_);(case side1 => exact cM (Kd.R_reads' HO184.out).2.2);(case side2 => exact (Kd.R_reads' HO184.out).2.1);rintro e w61 ⟨v200,rfl,ho0,hb⟩;have n0_ := Aside0.mk (Kd.R_elder' (rM HO_1.out) (Kd.R_base ho0) hb);have n1_ := Aside0.mk (Kd.R_elder' (rM HO_2.out) (Kd.R_base ho0) hb);have n2_ := Aside0.mk (Kd.R_elder' (rM HO184.out) (Kd.R_base ho0) hb);have n3_ := Aside0.mk (Kd.R_below (rM HO187.out) hb);have n4_ := Aside0.mk (Kd.R_below (rM HO190.out) hb);have n5_ := Aside0.mk (Kd.R_below (rM HO194.out) hb);have n6_ := Aside0.mk (Kd.R_below (rM HO197.out) hb);have n7_ := Aside0.mk (Kd.R_lower (Kd.R_new' (Kd.R_new' (Kd.R_new' ho0 (Kd.R_lt (rM HO_1.out))) (Kd.R_lt (rM HO_2.out))) (Kd.R_lt (rM HO184.out))) (below_size (bM HB.out)));have n8_ := Aside0.mk (below_step (bM HB.out) hb);clear HO_1;clear HO_2;clear HO184;clear HO187;clear HO190;clear HO194;clear HO197;clear HB;have HO_1 := n0_;have HO_2 := n1_;have HO184 := n2_;have HO187 := n3_;have HO190 := n4_;have HO194 := n5_;have HO197 := n6_;have HO201 := n7_;have HB := n8_;clear n0_ n1_ n2_ n3_ n4_ n5_ n6_ n7_ n8_;(try clear hb);(try clear hb2);(try clear hk);(try clear hi);(try clear ho0);obtain ⟨Ao62,co62,eo62⟩ := Kd.R_slice HO201.out;subst eo62))
          go_meet
          case rel => exact ⟨_,(((t199.length : Int) != 2)),(by first|rfl|(simp;done)|(simp [*];done)),H',⟨by have := HJ2.out;have := HJ22.out;first|omega|exact Nat.le_refl _⟩,⟨by (with_reducible repeat (first|apply Kd.R_alloc|apply Kd.R_drewN|apply Kd.R_drew));exact Kd.R_mono HO_1.out (fun _ hk => ⟨hk.1.1,hk.1.2⟩)⟩,⟨by (with_reducible repeat (first|apply Kd.R_alloc|apply Kd.R_drewN|apply Kd.R_drew));exact Kd.R_mono HO_2.out (fun _ hk => ⟨hk.1.1,hk.1.2⟩)⟩,⟨by (with_reducible repeat (first|apply Kd.R_alloc|apply Kd.R_drewN|apply Kd.R_drew));exact Kd.R_mono HO184.out (fun _ hk => ⟨hk.1.1.2,hk.1.2⟩)⟩,⟨bM HB.out⟩⟩
         ·replace c48 := Bool.eq_false_iff.mpr c48
          subst c48
          have H1 : (codesearchlaw25_alive.j2 kj22 y153 t159 y182 true) = some r := by rw [if_neg (show ¬ (false = true) by decide)] at H;exact H
          clear H
          have H := H1
          clear H1
          have H' := Aside0.mk H
          clear H
          obtain ⟨Ao63,co63,eo63⟩ := Kd.R_slice HO184.out
          subst eo63
          go_wp2_with (first|((with_reducible refine gate_callee (f := 26) rfl ?_);refine goesL_ (some 62) rfl rfl Tryd.func26 (by kernel_rfl) rfl #[.slice Ao63 y182.length co63,.string (⟨#[]⟩ : ByteArray)] rfl (by (try simp only [List.map_toArray,List.map_cons,List.map_nil]);first|done|rfl|(simp only [List.length_drop,List.length_take];rfl)) ?_;(with_reducible refine (tree_Names.calls kj22 _ _ y182 (⟨#[]⟩ : ByteArray) t185 _ ?side1 ?side2 A43.out).mono ?_);(case side1 => exact cM (Kd.R_reads' HO184.out).2.2);(case side2 => exact (Kd.R_reads' HO184.out).2.1);rintro e w64 ⟨v186,rfl,ho0,hb⟩;refine ⟨_,rfl,?_⟩;have n0_ := Aside0.mk (Kd.R_below (rM HO_1.out) hb);have n1_ := Aside0.mk (Kd.R_below (rM HO_2.out) hb);have n2_ := Aside0.mk (Kd.R_below (rM HO184.out) hb);have n3_ := Aside0.mk (Kd.R_lower ho0 (below_size (bM HB.out)));have n4_ := Aside0.mk (below_step (bM HB.out) hb);clear HO_1;clear HO_2;clear HO184;clear HB;have HO_1 := n0_;have HO_2 := n1_;have HO184 := n2_;have HO187 := n3_;have HB := n4_;clear n0_ n1_ n2_ n3_ n4_;(try clear hb);(try clear hb2);(try clear hk);(try clear hi);(try clear ho0))|((with_reducible refine gate_dst (N := 63) rfl ?_);(try (refine gate_guard (by rfl) ?_;dsimp only));refine Kd.R_lit Kd.string _ 9 ?hg (N := 63) ?hd (xs := ([(⟨#[97]⟩ : ByteArray),(⟨#[98]⟩ : ByteArray)] : List ByteArray)) (inner := [.string (⟨#[97]⟩ : ByteArray),.string (⟨#[98]⟩ : ByteArray)]) (ok := fun _ => True) (okp := fun _ => True) ?hr ?hp (fun _ hk => hk) trivial (Below.refl _ _) (Nat.le_refl _) (by simp) ?_;(case hd => rfl);(case hg => rfl);(case hr => first|(go_simp;done)|(go_simp;rfl));(case hp => exact (Reps.one (show Kd.M Kd.string _ _ _ (⟨#[97]⟩ : ByteArray) [.string (⟨#[97]⟩ : ByteArray)] from rfl) (Reps.one (show Kd.M Kd.string _ _ _ (⟨#[98]⟩ : ByteArray) [.string (⟨#[98]⟩ : ByteArray)] from rfl) (Reps.none _ _))));intro v189 w65 ho66 hb hg_ hnew_;clear hg_ hnew_;(first|rw [← Ny188.out] at ho66|(simp only [Int.reduceToNat] at ho66;rw [← Ny188.out] at ho66));have n0_ := Aside0.mk (Kd.R_below (rM HO_1.out) hb);have n1_ := Aside0.mk (Kd.R_below (rM HO_2.out) hb);have n2_ := Aside0.mk (Kd.R_below (rM HO184.out) hb);have n3_ := Aside0.mk (Kd.R_elder' (rM HO187.out) (Kd.R_base ho66) hb);have n4_ := Aside0.mk (Kd.R_lower (Kd.R_new' ho66 (Kd.R_lt (rM HO187.out))) (below_size (bM HB.out)));have n5_ := Aside0.mk (below_step (bM HB.out) hb);clear HO_1;clear HO_2;clear HO184;clear HO187;clear HB;have HO_1 := n0_;have HO_2 := n1_;have HO184 := n2_;have HO187 := n3_;have HO190 := n4_;have HB := n5_;clear n0_ n1_ n2_ n3_ n4_ n5_;clear hb ho66;obtain ⟨Ao67,co67,eo67⟩ := Kd.R_slice HO187.out;subst eo67;obtain ⟨Ao68,co68,eo68⟩ := Kd.R_slice HO190.out;subst eo68)|((with_reducible refine gate_callee (f := 25) rfl ?_);refine goesL_ (some 64) rfl rfl Tryd.func25 (by kernel_rfl) rfl #[.slice Ao67 t185.length co67,.slice Ao68 y188.length co68] rfl (by (try simp only [List.map_toArray,List.map_cons,List.map_nil]);first|done|rfl|(simp only [List.length_drop,List.length_take];rfl)) ?_;(with_reducible refine (codesearchref01_Strings.calls kj22 _ _ t185 _ _ y188 true _ ?side1 ?side2 ?side3 ?side4 A44.out).mono ?_);(case side1 => exact cM (Kd.R_reads' HO187.out).2.2);(case side2 => exact (Kd.R_reads' HO187.out).2.1);(case side3 => exact cM (Kd.R_reads' HO190.out).2.2);(case side4 => exact (Kd.R_reads' HO190.out).2.1);rintro e w' ⟨rfl,⟨nd,rfl⟩⟩;refine ⟨_,rfl,?_⟩)|(go_at_call 26;(with_reducible refine (tree_Names.calls kj22 _ _ y182 (⟨#[97]⟩ : ByteArray) t192 _ ?side1 ?side2 A46.out).mono ?_);(case side1 => exact cM (Kd.R_reads' HO184.out).2.2);(case side2 => exact (Kd.R_reads' HO184.out).2.1);rintro e w69 ⟨v193,rfl,ho0,hb⟩;have n0_ := Aside0.mk (Kd.R_below (rM HO_1.out) hb);have n1_ := Aside0.mk (Kd.R_below (rM HO_2.out) hb);have n2_ := Aside0.mk (Kd.R_below (rM HO184.out) hb);have n3_ := Aside0.mk (Kd.R_elder' (rM HO187.out) (Kd.R_base ho0) hb);have n4_ := Aside0.mk (Kd.R_elder' (rM HO190.out) (Kd.R_base ho0) hb);have n5_ := Aside0.mk (Kd.R_lower (Kd.R_new' (Kd.R_new' ho0 (Kd.R_lt (rM HO187.out))) (Kd.R_lt (rM HO190.out))) (below_size (bM HB.out)));have n6_ := Aside0.mk (below_step (bM HB.out) hb);clear HO_1;clear HO_2;clear HO184;clear HO187;clear HO190;clear HB;have HO_1 := n0_;have HO_2 := n1_;have HO184 := n2_;have HO187 := n3_;have HO190 := n4_;have HO194 := n5_;have HB := n6_;clear n0_ n1_ n2_ n3_ n4_ n5_ n6_;(try clear hb);(try clear hb2);(try clear hk);(try clear hi);(try clear ho0))|((with_reducible refine gate_dst (N := 69) rfl ?_);(try (refine gate_guard (by rfl) ?_;dsimp only));refine Kd.R_lit Kd.string _ 9 ?hg (N := 69) ?hd (xs := ([(⟨#[120]⟩ : ByteArray),(⟨#[121]⟩ : ByteArray)] : List ByteArray)) (inner := [.string (⟨#[120]⟩ : ByteArray),.string (⟨#[121]⟩ : ByteArray)]) (ok := fun _ => True) (okp := fun _ => True) ?hr ?hp (fun _ hk => hk) trivial (Below.refl _ _) (Nat.le_refl _) (by simp) ?_;(case hd => rfl);(case hg => rfl);(case hr => first|(go_simp;done)|(go_simp;rfl));(case hp => exact (Reps.one (show Kd.M Kd.string _ _ _ (⟨#[120]⟩ : ByteArray) [.string (⟨#[120]⟩ : ByteArray)] from rfl) (Reps.one (show Kd.M Kd.string _ _ _ (⟨#[121]⟩ : ByteArray) [.string (⟨#[121]⟩ : ByteArray)] from rfl) (Reps.none _ _))));intro v196 w70 ho71 hb hg_ hnew_;clear hg_ hnew_;(first|rw [← Ny195.out] at ho71|(simp only [Int.reduceToNat] at ho71;rw [← Ny195.out] at ho71));have n0_ := Aside0.mk (Kd.R_below (rM HO_1.out) hb);have n1_ := Aside0.mk (Kd.R_below (rM HO_2.out) hb);have n2_ := Aside0.mk (Kd.R_below (rM HO184.out) hb);have n3_ := Aside0.mk (Kd.R_elder' (rM HO187.out) (Kd.R_base ho71) hb);have n4_ := Aside0.mk (Kd.R_elder' (rM HO190.out) (Kd.R_base ho71) hb);have n5_ := Aside0.mk (Kd.R_elder' (rM HO194.out) (Kd.R_base ho71) hb);have n6_ := Aside0.mk (Kd.R_lower (Kd.R_new' (Kd.R_new' (Kd.R_new' ho71 (Kd.R_lt (rM HO187.out))) (Kd.R_lt (rM HO190.out))) (Kd.R_lt (rM HO194.out))) (below_size (bM HB.out)));have n7_ := Aside0.mk (below_step (bM HB.out) hb);clear HO_1;clear HO_2;clear HO184;clear HO187;clear HO190;clear HO194;clear HB;have HO_1 := n0_;have HO_2 := n1_;have HO184 := n2_;have HO187 := n3_;have HO190 := n4_;have HO194 := n5_;have HO197 := n6_;have HB := n7_;clear n0_ n1_ n2_ n3_ n4_ n5_ n6_ n7_;clear hb ho71;obtain ⟨Ao72,co72,eo72⟩ := Kd.R_slice HO194.out;subst eo72;obtain ⟨Ao73,co73,eo73⟩ := Kd.R_slice HO197.out;subst eo73)|(go_at_call 25;(with_reducible refine (codesearchref01_Strings.calls kj22 _ _ t192 _ _ y195 false _ ?side1 ?side2 ?side3 ?side4 A47.out).mono ?_);(case side1 => exact cM (Kd.R_reads' HO194.out).2.2);(case side2 => exact (Kd.R_reads' HO194.out).2.1);(case side3 => exact cM (Kd.R_reads' HO197.out).2.2);(case side4 => exact (Kd.R_reads' HO197.out).2.1);rintro e w' ⟨rfl,⟨nd,rfl⟩⟩))
          go_meet
          case rel => exact ⟨_,(true),(by first|rfl|(simp;done)|(simp [*];done)),H',⟨by have := HJ2.out;have := HJ22.out;first|omega|exact Nat.le_refl _⟩,⟨rM HO_1.out⟩,⟨rM HO_2.out⟩,⟨by (with_reducible repeat (first|apply Kd.R_alloc|apply Kd.R_drewN|apply Kd.R_drew));exact Kd.R_mono HO184.out (fun _ hk => ⟨hk.1.2,hk.2⟩)⟩,⟨bM HB.out⟩⟩
        ·replace c45 := Bool.eq_false_iff.mpr c45
         subst c45
         have H1 : (codesearchlaw25_alive.j2 kj22 y153 t159 y182 true) = some r := by rw [if_neg (show ¬ (false = true) by decide)] at H;exact H
         clear H
         have H := H1
         clear H1
         have H' := Aside0.mk H
         clear H
         obtain ⟨Ao74,co74,eo74⟩ := Kd.R_slice HO184.out
         subst eo74
         go_wp2_with (first|((with_reducible refine gate_callee (f := 26) rfl ?_);refine goesL_ (some 62) rfl rfl Tryd.func26 (by kernel_rfl) rfl #[.slice Ao74 y182.length co74,.string (⟨#[]⟩ : ByteArray)] rfl (by (try simp only [List.map_toArray,List.map_cons,List.map_nil]);first|done|rfl|(simp only [List.length_drop,List.length_take];rfl)) ?_;(with_reducible refine (tree_Names.calls kj22 _ _ y182 (⟨#[]⟩ : ByteArray) t185 _ ?side1 ?side2 A43.out).mono ?_);(case side1 => exact cM (Kd.R_reads' HO184.out).2.2);(case side2 => exact (Kd.R_reads' HO184.out).2.1);rintro e w75 ⟨v186,rfl,ho0,hb⟩;refine ⟨_,rfl,?_⟩;have n0_ := Aside0.mk (Kd.R_below (rM HO_1.out) hb);have n1_ := Aside0.mk (Kd.R_below (rM HO_2.out) hb);have n2_ := Aside0.mk (Kd.R_below (rM HO184.out) hb);have n3_ := Aside0.mk (Kd.R_lower ho0 (below_size (bM HB.out)));have n4_ := Aside0.mk (below_step (bM HB.out) hb);clear HO_1;clear HO_2;clear HO184;clear HB;have HO_1 := n0_;have HO_2 := n1_;have HO184 := n2_;have HO187 := n3_;have HB := n4_;clear n0_ n1_ n2_ n3_ n4_;(try clear hb);(try clear hb2);(try clear hk);(try clear hi);(try clear ho0))|((with_reducible refine gate_dst (N := 63) rfl ?_);(try (refine gate_guard (by rfl) ?_;dsimp only));refine Kd.R_lit Kd.string _ 9 ?hg (N := 63) ?hd (xs := ([(⟨#[97]⟩ : ByteArray),(⟨#[98]⟩ : ByteArray)] : List ByteArray)) (inner := [.string (⟨#[97]⟩ : ByteArray),.string (⟨#[98]⟩ : ByteArray)]) (ok := fun _ => True) (okp := fun _ => True) ?hr ?hp (fun _ hk => hk) trivial (Below.refl _ _) (Nat.le_refl _) (by simp) ?_;(case hd => rfl);(case hg => rfl);(case hr => first|(go_simp;done)|(go_simp;rfl));(case hp => exact (Reps.one (show Kd.M Kd.string _ _ _ (⟨#[97]⟩ : ByteArray) [.string (⟨#[97]⟩ : ByteArray)] from rfl) (Reps.one (show Kd.M Kd.string _ _ _ (⟨#[98]⟩ : ByteArray) [.string (⟨#[98]⟩ : ByteArray)] from rfl) (Reps.none _ _))));intro v189 w76 ho77 hb hg_ hnew_;clear hg_ hnew_;(first|rw [← Ny188.out] at ho77|(simp only [Int.reduceToNat] at ho77;rw [← Ny188.out] at ho77));have n0_ := Aside0.mk (Kd.R_below (rM HO_1.out) hb);have n1_ := Aside0.mk (Kd.R_below (rM HO_2.out) hb);have n2_ := Aside0.mk (Kd.R_below (rM HO184.out) hb);have n3_ := Aside0.mk (Kd.R_elder' (rM HO187.out) (Kd.R_base ho77) hb);have n4_ := Aside0.mk (Kd.R_lower (Kd.R_new' ho77 (Kd.R_lt (rM HO187.out))) (below_size (bM HB.out)));have n5_ := Aside0.mk (below_step (bM HB.out) hb);clear HO_1;clear HO_2;clear HO184;clear HO187;clear HB;have HO_1 := n0_;have HO_2 := n1_;have HO184 := n2_;have HO187 := n3_;have HO190 := n4_;have HB := n5_;clear n0_ n1_ n2_ n3_ n4_ n5_;clear hb ho77;obtain ⟨Ao78,co78,eo78⟩ := Kd.R_slice HO187.out;subst eo78;obtain ⟨Ao79,co79,eo79⟩ := Kd.R_slice HO190.out;subst eo79)|((with_reducible refine gate_callee (f := 25) rfl ?_);refine goesL_ (some 64) rfl rfl Tryd.func25 (by kernel_rfl) rfl #[.slice Ao78 t185.length co78,.slice Ao79 y188.length co79] rfl (by (try simp only [List.map_toArray,List.map_cons,List.map_nil]);first|done|rfl|(simp only [List.length_drop,List.length_take];rfl)) ?_;(with_reducible refine (codesearchref01_Strings.calls kj22 _ _ t185 _ _ y188 false _ ?side1 ?side2 ?side3 ?side4 A44.out).mono ?_);(case side1 => exact cM (Kd.R_reads' HO187.out).2.2);(case side2 => exact (Kd.R_reads' HO187.out).2.1);(case side3 => exact cM (Kd.R_reads' HO190.out).2.2);(case side4 => exact (Kd.R_reads' HO190.out).2.1);rintro e w' ⟨rfl,⟨nd,rfl⟩⟩;refine ⟨_,rfl,?_⟩))
         go_meet
         case rel => exact ⟨_,(true),(by first|rfl|(simp;done)|(simp [*];done)),H',⟨by have := HJ2.out;have := HJ22.out;first|omega|exact Nat.le_refl _⟩,⟨rM HO_1.out⟩,⟨rM HO_2.out⟩,⟨by (with_reducible repeat (first|apply Kd.R_alloc|apply Kd.R_drewN|apply Kd.R_drew));exact Kd.R_mono HO184.out (fun _ hk => ⟨hk.1.2,hk.2⟩)⟩,⟨bM HB.out⟩⟩
       case rest =>
        clear HC40
        try clear c1
        try clear c2
        try clear p2
        try clear c3
        try clear c4
        try clear c11
        try clear c12
        try clear c15
        try clear c15b0
        try clear c15b1
        try clear c16
        try clear c16b0
        try clear c16b1
        try clear c22
        try clear c25
        try clear c25b0
        try clear c25b1
        try clear c26
        try clear c39
        try clear c45
        try clear c48
        try clear p2
        obtain ⟨kq,x78_39,rfl,HA,HJ39,HO_1,HO_2,HO_6,HB⟩ := hcut
        cases kq with
       |zero => exact absurd HA.out (by simp [codesearchlaw25_alive.j2])
       |succ kj39 =>
         have H := HA.out
         clear HA
         simp only [codesearchlaw25_alive.j2] at H
         by_cases c80 : x78_39 = true
         ·subst c80
          have H1 : (some false) = some r := by rw [if_pos rfl] at H;exact H
          clear H
          have H := H1
          clear H1
          obtain rfl := Option.some.inj H
          go_wp2
          go_ret
          exact ⟨by first|rfl|(simp [errW_none,errW_some] <;> rfl)|(simp [*,errW_none,errW_some] <;> rfl),bM HB.out⟩
         ·replace c80 := Bool.eq_false_iff.mpr c80
          subst c80
          have H1 : ((tree_Get.f kj39 y182 (⟨#[98]⟩ : ByteArray)).bind fun bt202 => ((tree_Merge.f (([(⟨(⟨#[97]⟩ : ByteArray),1⟩ : S45),(⟨(⟨#[98]⟩ : ByteArray),1⟩ : S45)] : List (S45))) (([(⟨(⟨#[97]⟩ : ByteArray),2⟩ : S45),(⟨(⟨#[98]⟩ : ByteArray),1⟩ : S45)] : List (S45))) (([(⟨(⟨#[97]⟩ : ByteArray),3⟩ : S45),(⟨(⟨#[99]⟩ : ByteArray),3⟩ : S45)] : List (S45)))).bind fun bt213 => ((tree_Diff.f y153 t159).bind fun t219 => ((codesearchref25_Changes.f kj39 t219 (([(⟨(⟨#[97]⟩ : ByteArray),5⟩ : S47),(⟨(⟨#[98]⟩ : ByteArray),0⟩ : S47)] : List (S47)))).bind fun t225 => (if t225 = true then (if bt202.1 = 1 then (codesearchlaw25_alive.j3 kj39 bt213.1 bt213.2 (!bt202.2)) else (codesearchlaw25_alive.j3 kj39 bt213.1 bt213.2 true)) else (codesearchlaw25_alive.j3 kj39 bt213.1 bt213.2 true)))))) = some r := by rw [if_neg (show ¬ (false = true) by decide)] at H;exact H
          clear H
          have H := H1
          clear H1
          replace H := Option.bind_eq_some_iff.mp H
          obtain ⟨⟨t202,t203⟩,A810,H⟩ := H
          replace H : ((tree_Merge.f (([(⟨(⟨#[97]⟩ : ByteArray),1⟩ : S45),(⟨(⟨#[98]⟩ : ByteArray),1⟩ : S45)] : List (S45))) (([(⟨(⟨#[97]⟩ : ByteArray),2⟩ : S45),(⟨(⟨#[98]⟩ : ByteArray),1⟩ : S45)] : List (S45))) (([(⟨(⟨#[97]⟩ : ByteArray),3⟩ : S45),(⟨(⟨#[99]⟩ : ByteArray),3⟩ : S45)] : List (S45)))).bind fun bt213 => ((tree_Diff.f y153 t159).bind fun t219 => ((codesearchref25_Changes.f kj39 t219 (([(⟨(⟨#[97]⟩ : ByteArray),5⟩ : S47),(⟨(⟨#[98]⟩ : ByteArray),0⟩ : S47)] : List (S47)))).bind fun t225 => (if t225 = true then (if t202 = 1 then (codesearchlaw25_alive.j3 kj39 bt213.1 bt213.2 (!t203)) else (codesearchlaw25_alive.j3 kj39 bt213.1 bt213.2 true)) else (codesearchlaw25_alive.j3 kj39 bt213.1 bt213.2 true))))) = some r := H
          have A81 := Aside0.mk A810
          clear A810
          obtain ⟨y204,hy204⟩ : ∃ y_ : List (S45),y_ = (([(⟨(⟨#[97]⟩ : ByteArray),1⟩ : S45),(⟨(⟨#[98]⟩ : ByteArray),1⟩ : S45)] : List (S45))) := ⟨_,rfl⟩
          replace H : ((tree_Merge.f y204 (([(⟨(⟨#[97]⟩ : ByteArray),2⟩ : S45),(⟨(⟨#[98]⟩ : ByteArray),1⟩ : S45)] : List (S45))) (([(⟨(⟨#[97]⟩ : ByteArray),3⟩ : S45),(⟨(⟨#[99]⟩ : ByteArray),3⟩ : S45)] : List (S45)))).bind fun bt213 => ((tree_Diff.f y153 t159).bind fun t219 => ((codesearchref25_Changes.f kj39 t219 (([(⟨(⟨#[97]⟩ : ByteArray),5⟩ : S47),(⟨(⟨#[98]⟩ : ByteArray),0⟩ : S47)] : List (S47)))).bind fun t225 => (if t225 = true then (if t202 = 1 then (codesearchlaw25_alive.j3 kj39 bt213.1 bt213.2 (!t203)) else (codesearchlaw25_alive.j3 kj39 bt213.1 bt213.2 true)) else (codesearchlaw25_alive.j3 kj39 bt213.1 bt213.2 true))))) = some r := by first|(rw [hy204];with_reducible exact H)|(have H2_ := (Option.bind_some _ _).symm.trans H;rw [hy204];with_reducible exact H2_)|(have H2_ := (Option.bind_some _ _).symm.trans H;with_reducible exact H2_)|with_reducible exact H|(rw [hy204];exact H)|exact H
          have Ny204 := Aside0.mk hy204
          clear hy204
          obtain ⟨y207,hy207⟩ : ∃ y_ : List (S45),y_ = (([(⟨(⟨#[97]⟩ : ByteArray),2⟩ : S45),(⟨(⟨#[98]⟩ : ByteArray),1⟩ : S45)] : List (S45))) := ⟨_,rfl⟩
          replace H : ((tree_Merge.f y204 y207 (([(⟨(⟨#[97]⟩ : ByteArray),3⟩ : S45),(⟨(⟨#[99]⟩ : ByteArray),3⟩ : S45)] : List (S45)))).bind fun bt213 => ((tree_Diff.f y153 t159).bind fun t219 => ((codesearchref25_Changes.f kj39 t219 (([(⟨(⟨#[97]⟩ : ByteArray),5⟩ : S47),(⟨(⟨#[98]⟩ : ByteArray),0⟩ : S47)] : List (S47)))).bind fun t225 => (if t225 = true then (if t202 = 1 then (codesearchlaw25_alive.j3 kj39 bt213.1 bt213.2 (!t203)) else (codesearchlaw25_alive.j3 kj39 bt213.1 bt213.2 true)) else (codesearchlaw25_alive.j3 kj39 bt213.1 bt213.2 true))))) = some r := by first|(rw [hy207];with_reducible exact H)|(have H2_ := (Option.bind_some _ _).symm.trans H;rw [hy207];with_reducible exact H2_)|(have H2_ := (Option.bind_some _ _).symm.trans H;with_reducible exact H2_)|with_reducible exact H|(rw [hy207];exact H)|exact H
          have Ny207 := Aside0.mk hy207
          clear hy207
          obtain ⟨y210,hy210⟩ : ∃ y_ : List (S45),y_ = (([(⟨(⟨#[97]⟩ : ByteArray),3⟩ : S45),(⟨(⟨#[99]⟩ : ByteArray),3⟩ : S45)] : List (S45))) := ⟨_,rfl⟩
          replace H : ((tree_Merge.f y204 y207 y210).bind fun bt213 => ((tree_Diff.f y153 t159).bind fun t219 => ((codesearchref25_Changes.f kj39 t219 (([(⟨(⟨#[97]⟩ : ByteArray),5⟩ : S47),(⟨(⟨#[98]⟩ : ByteArray),0⟩ : S47)] : List (S47)))).bind fun t225 => (if t225 = true then (if t202 = 1 then (codesearchlaw25_alive.j3 kj39 bt213.1 bt213.2 (!t203)) else (codesearchlaw25_alive.j3 kj39 bt213.1 bt213.2 true)) else (codesearchlaw25_alive.j3 kj39 bt213.1 bt213.2 true))))) = some r := by first|(rw [hy210];with_reducible exact H)|(have H2_ := (Option.bind_some _ _).symm.trans H;rw [hy210];with_reducible exact H2_)|(have H2_ := (Option.bind_some _ _).symm.trans H;with_reducible exact H2_)|with_reducible exact H|(rw [hy210];exact H)|exact H
          have Ny210 := Aside0.mk hy210
          clear hy210
          replace H := Option.bind_eq_some_iff.mp H
          obtain ⟨⟨t213,t214⟩,A820,H⟩ := H
          replace H : ((tree_Diff.f y153 t159).bind fun t219 => ((codesearchref25_Changes.f kj39 t219 (([(⟨(⟨#[97]⟩ : ByteArray),5⟩ : S47),(⟨(⟨#[98]⟩ : ByteArray),0⟩ : S47)] : List (S47)))).bind fun t225 => (if t225 = true then (if t202 = 1 then (codesearchlaw25_alive.j3 kj39 t213 t214 (!t203)) else (codesearchlaw25_alive.j3 kj39 t213 t214 true)) else (codesearchlaw25_alive.j3 kj39 t213 t214 true)))) = some r := H
          have A82 := Aside0.mk A820
          clear A820
          replace H := Option.bind_eq_some_iff.mp H
          obtain ⟨t219,A830,H⟩ := H
          replace H : ((codesearchref25_Changes.f kj39 t219 (([(⟨(⟨#[97]⟩ : ByteArray),5⟩ : S47),(⟨(⟨#[98]⟩ : ByteArray),0⟩ : S47)] : List (S47)))).bind fun t225 => (if t225 = true then (if t202 = 1 then (codesearchlaw25_alive.j3 kj39 t213 t214 (!t203)) else (codesearchlaw25_alive.j3 kj39 t213 t214 true)) else (codesearchlaw25_alive.j3 kj39 t213 t214 true))) = some r := H
          have A83 := Aside0.mk A830
          clear A830
          have HC84 := Aside0.mk H
          clear H
          obtain ⟨Ao85,co85,eo85⟩ := Kd.R_slice HO_6.out
          subst eo85
          go_upto_region 15 with (first|((with_reducible refine gate_callee (f := 14) rfl ?_);refine goesL_ (some 81) rfl rfl Tryd.func14 (by kernel_rfl) rfl #[.slice Ao85 y182.length co85,.string (⟨#[98]⟩ : ByteArray)] rfl (by (try simp only [List.map_toArray,List.map_cons,List.map_nil]);first|done|rfl|(simp only [List.length_drop,List.length_take];rfl)) ?_;(with_reducible refine (tree_Get.calls kj39 _ _ y182 (⟨#[98]⟩ : ByteArray) t202 t203 _ ?side1 ?side2 A81.out).mono ?_);(case side1 => exact cM (Kd.R_reads' HO_6.out).2.2);(case side2 => exact (Kd.R_reads' HO_6.out).2.1);rintro e w86 ⟨rfl,hb⟩;refine ⟨_,rfl,?_⟩;have n0_ := Aside0.mk (Kd.R_below (rM HO_1.out) hb);have n1_ := Aside0.mk (Kd.R_below (rM HO_2.out) hb);have n2_ := Aside0.mk (Kd.R_below (rM HO_6.out) hb);have n3_ := Aside0.mk (below_step (bM HB.out) hb);clear HO_1;clear HO_2;clear HO_6;clear HB;have HO_1 := n0_;have HO_2 := n1_;have HO_6 := n2_;have HB := n3_;clear n0_ n1_ n2_ n3_;(try clear hb);(try clear hb2);(try clear hk);(try clear hi))|((with_reducible refine gate_dst (N := 86) rfl ?_);(try (refine gate_guard (by rfl) ?_;dsimp only));refine Kd.R_lit k45 _ 45 ?hg (N := 86) ?hd (xs := ([(⟨(⟨#[97]⟩ : ByteArray),1⟩ : S45),(⟨(⟨#[98]⟩ : ByteArray),1⟩ : S45)] : List (S45))) (inner := [.string (⟨#[97]⟩ : ByteArray),.int .i64 1,.string (⟨#[98]⟩ : ByteArray),.int .i64 1]) (ok := fun _ => True) (okp := fun _ => True) ?hr ?hp (fun _ hk => hk) trivial (Below.refl _ _) (Nat.le_refl _) (by simp) ?_;(case hd => rfl);(case hg => rfl);(case hr => first|(go_simp;done)|(go_simp;rfl));(case hp => exact (Reps.c2 (show Kd.M k45 _ _ _ (⟨(⟨#[97]⟩ : ByteArray),1⟩ : S45) [.string (⟨#[97]⟩ : ByteArray),.int .i64 1] from (k45_mkM _ _ _ (⟨(⟨#[97]⟩ : ByteArray),1⟩ : S45) )) (Reps.c2 (show Kd.M k45 _ _ _ (⟨(⟨#[98]⟩ : ByteArray),1⟩ : S45) [.string (⟨#[98]⟩ : ByteArray),.int .i64 1] from (k45_mkM _ _ _ (⟨(⟨#[98]⟩ : ByteArray),1⟩ : S45) )) (Reps.none _ _))));intro v205 w87 ho88 hb hg_ hnew_;clear hg_ hnew_;(first|rw [← Ny204.out] at ho88|(simp only [Int.reduceToNat] at ho88;rw [← Ny204.out] at ho88));have n0_ := Aside0.mk (Kd.R_elder' (rM HO_1.out) (Kd.R_base ho88) hb);have n1_ := Aside0.mk (Kd.R_elder' (rM HO_2.out) (Kd.R_base ho88) hb);have n2_ := Aside0.mk (Kd.R_elder' (rM HO_6.out) (Kd.R_base ho88) hb);have n3_ := Aside0.mk (Kd.R_lower (Kd.R_new' (Kd.R_new' (Kd.R_new' ho88 (Kd.R_lt (rM HO_1.out))) (Kd.R_lt (rM HO_2.out))) (Kd.R_lt (rM HO_6.out))) (below_size (bM HB.out)));have n4_ := Aside0.mk (below_step (bM HB.out) hb);clear HO_1;clear HO_2;clear HO_6;clear HB;have HO_1 := n0_;have HO_2 := n1_;have HO_6 := n2_;have HO206 := n3_;have HB := n4_;clear n0_ n1_ n2_ n3_ n4_;clear hb ho88)|((with_reducible refine gate_dst (N := 91) rfl ?_);(try (refine gate_guard (by rfl) ?_;dsimp only));refine Kd.R_lit k45 _ 45 ?hg (N := 91) ?hd (xs := ([(⟨(⟨#[97]⟩ : ByteArray),2⟩ : S45),(⟨(⟨#[98]⟩ : ByteArray),1⟩ : S45)] : List (S45))) (inner := [.string (⟨#[97]⟩ : ByteArray),.int .i64 2,.string (⟨#[98]⟩ : ByteArray),.int .i64 1]) (ok := fun _ => True) (okp := fun _ => True) ?hr ?hp (fun _ hk => hk) trivial (Below.refl _ _) (Nat.le_refl _) (by simp) ?_;(case hd => rfl);(case hg => rfl);(case hr => first|(go_simp;done)|(go_simp;rfl));(case hp => exact (Reps.c2 (show Kd.M k45 _ _ _ (⟨(⟨#[97]⟩ : ByteArray),2⟩ : S45) [.string (⟨#[97]⟩ : ByteArray),.int .i64 2] from (k45_mkM _ _ _ (⟨(⟨#[97]⟩ : ByteArray),2⟩ : S45) )) (Reps.c2 (show Kd.M k45 _ _ _ (⟨(⟨#[98]⟩ : ByteArray),1⟩ : S45) [.string (⟨#[98]⟩ : ByteArray),.int .i64 1] from (k45_mkM _ _ _ (⟨(⟨#[98]⟩ : ByteArray),1⟩ : S45) )) (Reps.none _ _))));intro v208 w89 ho90 hb hg_ hnew_;clear hg_ hnew_;(first|rw [← Ny207.out] at ho90|(simp only [Int.reduceToNat] at ho90;rw [← Ny207.out] at ho90));have n0_ := Aside0.mk (Kd.R_elder' (rM HO_1.out) (Kd.R_base ho90) hb);have n1_ := Aside0.mk (Kd.R_elder' (rM HO_2.out) (Kd.R_base ho90) hb);have n2_ := Aside0.mk (Kd.R_elder' (rM HO_6.out) (Kd.R_base ho90) hb);have n3_ := Aside0.mk (Kd.R_elder' (rM HO206.out) (Kd.R_base ho90) hb);have n4_ := Aside0.mk (Kd.R_lower (Kd.R_new' (Kd.R_new' (Kd.R_new' (Kd.R_new' ho90 (Kd.R_lt (rM HO_1.out))) (Kd.R_lt (rM HO_2.out))) (Kd.R_lt (rM HO_6.out))) (Kd.R_lt (rM HO206.out))) (below_size (bM HB.out)));have n5_ := Aside0.mk (below_step (bM HB.out) hb);clear HO_1;clear HO_2;clear HO_6;clear HO206;clear HB;have HO_1 := n0_;have HO_2 := n1_;have HO_6 := n2_;have HO206 := n3_;have HO209 := n4_;have HB := n5_;clear n0_ n1_ n2_ n3_ n4_ n5_;clear hb ho90)|((with_reducible refine gate_dst (N := 94) rfl ?_);(try (refine gate_guard (by rfl) ?_;dsimp only));refine Kd.R_lit k45 _ 45 ?hg (N := 94) ?hd (xs := ([(⟨(⟨#[97]⟩ : ByteArray),3⟩ : S45),(⟨(⟨#[99]⟩ : ByteArray),3⟩ : S45)] : List (S45))) (inner := [.string (⟨#[97]⟩ : ByteArray),.int .i64 3,.string (⟨#[99]⟩ : ByteArray),.int .i64 3]) (ok := fun _ => True) (okp := fun _ => True) ?hr ?hp (fun _ hk => hk) trivial (Below.refl _ _) (Nat.le_refl _) (by simp) ?_;(case hd => rfl);(case hg => rfl);(case hr => first|(go_simp;done)|(go_simp;rfl));(case hp => exact (Reps.c2 (show Kd.M k45 _ _ _ (⟨(⟨#[97]⟩ : ByteArray),3⟩ : S45) [.string (⟨#[97]⟩ : ByteArray),.int .i64 3] from (k45_mkM _ _ _ (⟨(⟨#[97]⟩ : ByteArray),3⟩ : S45) )) (Reps.c2 (show Kd.M k45 _ _ _ (⟨(⟨#[99]⟩ : ByteArray),3⟩ : S45) [.string (⟨#[99]⟩ : ByteArray),.int .i64 3] from (k45_mkM _ _ _ (⟨(⟨#[99]⟩ : ByteArray),3⟩ : S45) )) (Reps.none _ _))));intro v211 w91 ho92 hb hg_ hnew_;clear hg_ hnew_;(first|rw [← Ny210.out] at ho92|(simp only [Int.reduceToNat] at ho92;rw [← Ny210.out] at ho92));have n0_ := Aside0.mk (Kd.R_elder' (rM HO_1.out) (Kd.R_base ho92) hb);have n1_ := Aside0.mk (Kd.R_elder' (rM HO_2.out) (Kd.R_base ho92) hb);have n2_ := Aside0.mk (Kd.R_elder' (rM HO_6.out) (Kd.R_base ho92) hb);have n3_ := Aside0.mk (Kd.R_elder' (rM HO206.out) (Kd.R_base ho92) hb);have n4_ := Aside0.mk (Kd.R_elder' (rM HO209.out) (Kd.R_base ho92) hb);have n5_ := Aside0.mk (Kd.R_lower (Kd.R_new' (Kd.R_new' (Kd.R_new' (Kd.R_new' (Kd.R_new' ho92 (Kd.R_lt (rM HO_1.out))) (Kd.R_lt (rM HO_2.out))) (Kd.R_lt (rM HO_6.out))) (Kd.R_lt (rM HO206.out))) (Kd.R_lt (rM HO209.out))) (below_size (bM HB.out)));have n6_ := Aside0.mk (below_step (bM HB.out) hb);clear HO_1;clear HO_2;clear HO_6;clear HO206;clear HO209;clear HB;have HO_1 := n0_;have HO_2 := n1_;have HO_6 := n2_;have HO206 := n3_;have HO209 := n4_;have HO212 := n5_;have HB := n6_;clear n0_ n1_ n2_ n3_ n4_ n5_ n6_;clear hb ho92;obtain ⟨Ao93,co93,eo93⟩ := Kd.R_slice HO206.out;subst eo93;obtain ⟨Ao94,co94,eo94⟩ := Kd.R_slice HO209.out;subst eo94;obtain ⟨Ao95,co95,eo95⟩ := Kd.R_slice HO212.out;subst eo95)|((with_reducible refine gate_callee (f := 28) rfl ?_);refine goesL_ (some 95) rfl rfl Tryd.func28 (by kernel_rfl) rfl #[.slice Ao93 y204.length co93,.slice Ao94 y207.length co94,.slice Ao95 y210.length co95] rfl (by (try simp only [List.map_toArray,List.map_cons,List.map_nil]);first|done|rfl|(simp only [List.length_drop,List.length_take];rfl)) ?_;(with_reducible refine (tree_Merge.calls _ _ y204 _ _ y207 _ _ y210 t213 t214 _ ?side1 ?side2 ?side3 ?side4 ?side5 ?side6 A82.out).mono ?_);(case side1 => exact cM (Kd.R_reads' HO206.out).2.2);(case side2 => exact (Kd.R_reads' HO206.out).2.1);(case side3 => exact cM (Kd.R_reads' HO209.out).2.2);(case side4 => exact (Kd.R_reads' HO209.out).2.1);(case side5 => exact cM (Kd.R_reads' HO212.out).2.2);(case side6 => exact (Kd.R_reads' HO212.out).2.1);rintro e w96 ⟨v215,v217,rfl,ho0,ho1,hb⟩;refine ⟨_,rfl,?_⟩;have n0_ := Aside0.mk (Kd.R_elder' (rM HO_1.out) (Kd.R_base ho0) hb);have n1_ := Aside0.mk (Kd.R_elder' (rM HO_2.out) (Kd.R_base ho0) hb);have n2_ := Aside0.mk (Kd.R_elder' (rM HO_6.out) (Kd.R_base ho0) hb);have n3_ := Aside0.mk (Kd.R_elder' (rM HO206.out) (Kd.R_base ho0) hb);have n4_ := Aside0.mk (Kd.R_elder' (rM HO209.out) (Kd.R_base ho0) hb);have n5_ := Aside0.mk (Kd.R_elder' (rM HO212.out) (Kd.R_base ho0) hb);have n6_ := Aside0.mk (Kd.R_lower (Kd.R_new' (Kd.R_new' (Kd.R_new' (Kd.R_new' (Kd.R_new' (Kd.R_new' ho0 (Kd.R_lt (rM HO_1.out))) (Kd.R_lt (rM HO_2.out))) (Kd.R_lt (rM HO_6.out))) (Kd.R_lt (rM HO206.out))) (Kd.R_lt (rM HO209.out))) (Kd.R_lt (rM HO212.out))) (below_size (bM HB.out)));have n7_ := Aside0.mk (Kd.R_lower ho1 (below_size (bM HB.out)));have n8_ := Aside0.mk (below_step (bM HB.out) hb);clear HO_1;clear HO_2;clear HO_6;clear HO206;clear HO209;clear HO212;clear HB;have HO_1 := n0_;have HO_2 := n1_;have HO_6 := n2_;have HO206 := n3_;have HO209 := n4_;have HO212 := n5_;have HO216 := n6_;have HO218 := n7_;have HB := n8_;clear n0_ n1_ n2_ n3_ n4_ n5_ n6_ n7_ n8_;(try clear hb);(try clear hb2);(try clear hk);(try clear hi);(try clear ho0);(try clear ho1);obtain ⟨Ao97,co97,eo97⟩ := Kd.R_slice HO_2.out;subst eo97)|((with_reducible refine gate_callee (f := 21) rfl ?_);refine goesL_ (some 100) rfl rfl Tryd.func21 (by kernel_rfl) rfl #[.slice Ao8 y153.length co8,.slice Ao97 t159.length co97] rfl (by (try simp only [List.map_toArray,List.map_cons,List.map_nil]);first|done|rfl|(simp only [List.length_drop,List.length_take];rfl)) ?_;(with_reducible refine (tree_Diff.calls _ _ y153 _ _ t159 t219 _ ?side1 ?side2 ?side3 ?side4 A83.out).mono ?_);(case side1 => exact cM (Kd.R_reads' HO_1.out).2.2);(case side2 => exact (Kd.R_reads' HO_1.out).2.1);(case side3 => exact cM (Kd.R_reads' HO_2.out).2.2);(case side4 => exact (Kd.R_reads' HO_2.out).2.1);rintro e w98 ⟨v220,rfl,ho0,hb⟩;refine ⟨_,rfl,?_⟩;have n0_ := Aside0.mk (Kd.R_below (rM HO_1.out) hb);have n1_ := Aside0.mk (Kd.R_below (rM HO_2.out) hb);have n2_ := Aside0.mk (Kd.R_below (rM HO_6.out) hb);have n3_ := Aside0.mk (Kd.R_below (rM HO206.out) hb);have n4_ := Aside0.mk (Kd.R_below (rM HO209.out) hb);have n5_ := Aside0.mk (Kd.R_below (rM HO212.out) hb);have n6_ := Aside0.mk (Kd.R_below (rM HO216.out) hb);have n7_ := Aside0.mk (Kd.R_below (rM HO218.out) hb);have n8_ := Aside0.mk (Kd.R_lower ho0 (below_size (bM HB.out)));have n9_ := Aside0.mk (below_step (bM HB.out) hb);clear HO_1;clear HO_2;clear HO_6;clear HO206;clear HO209;clear HO212;clear HO216;clear HO218;clear HB;have HO_1 := n0_;have HO_2 := n1_;have HO_6 := n2_;have HO206 := n3_;have HO209 := n4_;have HO212 := n5_;have HO216 := n6_;have HO218 := n7_;have HO221 := n8_;have HB := n9_;clear n0_ n1_ n2_ n3_ n4_ n5_ n6_ n7_ n8_ n9_;(try clear hb);(try clear hb2);(try clear hk);(try clear hi);(try clear ho0)))
          (try simp only [Act.put,List.setIfInBounds_toArray,List.set_cons_zero,List.set_cons_succ])
          go_cut [114] (fun v114 wc => ∃ (kq : Nat) (x114_83 : Bool),v114 = .bool x114_83 ∧ Aside0 (codesearchlaw25_alive.j3 kq t213 t214 x114_83 = some r) ∧ Aside0 (kq ≤ kj39) ∧ Aside0 (Kd.R k45 45 wc w.heap.size (fun _ => True) v215 t213) ∧ Aside0 (Kd.R Kd.string 9 wc w.heap.size (fun _ => True) v217 t214) ∧ Aside0 (Below w.heap.size w wc))
          case first =>
           have H := HC84.out
           clear HC84
           obtain ⟨y222,hy222⟩ : ∃ y_ : List (S47),y_ = (([(⟨(⟨#[97]⟩ : ByteArray),5⟩ : S47),(⟨(⟨#[98]⟩ : ByteArray),0⟩ : S47)] : List (S47))) := ⟨_,rfl⟩
           replace H : ((codesearchref25_Changes.f kj39 t219 y222).bind fun t225 => (if t225 = true then (if t202 = 1 then (codesearchlaw25_alive.j3 kj39 t213 t214 (!t203)) else (codesearchlaw25_alive.j3 kj39 t213 t214 true)) else (codesearchlaw25_alive.j3 kj39 t213 t214 true))) = some r := by first|(rw [hy222];with_reducible exact H)|(have H2_ := (Option.bind_some _ _).symm.trans H;rw [hy222];with_reducible exact H2_)|(have H2_ := (Option.bind_some _ _).symm.trans H;with_reducible exact H2_)|with_reducible exact H|(rw [hy222];exact H)|exact H
           have Ny222 := Aside0.mk hy222
           clear hy222
           replace H := Option.bind_eq_some_iff.mp H
           obtain ⟨t225,A990,H⟩ := H
           replace H : (if t225 = true then (if t202 = 1 then (codesearchlaw25_alive.j3 kj39 t213 t214 (!t203)) else (codesearchlaw25_alive.j3 kj39 t213 t214 true)) else (codesearchlaw25_alive.j3 kj39 t213 t214 true)) = some r := H
           have A99 := Aside0.mk A990
           clear A990
           by_cases c100 : t225 = true
           ·subst c100
            have H1 : (if t202 = 1 then (codesearchlaw25_alive.j3 kj39 t213 t214 (!t203)) else (codesearchlaw25_alive.j3 kj39 t213 t214 true)) = some r := by rw [if_pos rfl] at H;exact H
            clear H
            have H := H1
            clear H1
            by_cases c101 : t202 = 1
            ·rw [if_pos c101] at H
             have c101b0 : (t202 == 1) = true := beq_iff_eq.mpr c101
             have c101b1 : (t202 != 1) = false := bne_eq_false_iff_eq.mpr c101
             clear c101
             (first|rw [c101b0]|(simp only [i64_w,i32_w];rw [c101b0])|rw [c101b1]|skip)
             have H' := Aside0.mk H
             clear H
             go_wp2_with (first|((with_reducible refine gate_dst (N := 104) rfl ?_);(try (refine gate_guard (by rfl) ?_;dsimp only));refine Kd.R_lit k47 _ 47 ?hg (N := 104) ?hd (xs := ([(⟨(⟨#[97]⟩ : ByteArray),5⟩ : S47),(⟨(⟨#[98]⟩ : ByteArray),0⟩ : S47)] : List (S47))) (inner := [.string (⟨#[97]⟩ : ByteArray),.int .i64 5,.string (⟨#[98]⟩ : ByteArray),.int .i64 0]) (ok := fun _ => True) (okp := fun _ => True) ?hr ?hp (fun _ hk => hk) trivial (Below.refl _ _) (Nat.le_refl _) (by simp) ?_;(case hd => rfl);(case hg => rfl);(case hr => first|(go_simp;done)|(go_simp;rfl));(case hp => exact (Reps.c2 (show Kd.M k47 _ _ _ (⟨(⟨#[97]⟩ : ByteArray),5⟩ : S47) [.string (⟨#[97]⟩ : ByteArray),.int .i64 5] from (k47_mkM _ _ _ (⟨(⟨#[97]⟩ : ByteArray),5⟩ : S47) )) (Reps.c2 (show Kd.M k47 _ _ _ (⟨(⟨#[98]⟩ : ByteArray),0⟩ : S47) [.string (⟨#[98]⟩ : ByteArray),.int .i64 0] from (k47_mkM _ _ _ (⟨(⟨#[98]⟩ : ByteArray),0⟩ : S47) )) (Reps.none _ _))));intro v223 w102 ho103 hb hg_ hnew_;clear hg_ hnew_;(first|rw [← Ny222.out] at ho103|(simp only [Int.reduceToNat] at ho103;rw [← Ny222.out] at ho103));have n0_ := Aside0.mk (Kd.R_below (rM HO_1.out) hb);have n1_ := Aside0.mk (Kd.R_below (rM HO_2.out) hb);have n2_ := Aside0.mk (Kd.R_below (rM HO_6.out) hb);have n3_ := Aside0.mk (Kd.R_below (rM HO206.out) hb);have n4_ := Aside0.mk (Kd.R_below (rM HO209.out) hb);have n5_ := Aside0.mk (Kd.R_below (rM HO212.out) hb);have n6_ := Aside0.mk (Kd.R_below (rM HO216.out) hb);have n7_ := Aside0.mk (Kd.R_below (rM HO218.out) hb);have n8_ := Aside0.mk (Kd.R_elder' (rM HO221.out) (Kd.R_base ho103) hb);have n9_ := Aside0.mk (Kd.R_lower (Kd.R_new' ho103 (Kd.R_lt (rM HO221.out))) (below_size (bM HB.out)));have n10_ := Aside0.mk (below_step (bM HB.out) hb);clear HO_1;clear HO_2;clear HO_6;clear HO206;clear HO209;clear HO212;clear HO216;clear HO218;clear HO221;clear HB;have HO_1 := n0_;have HO_2 := n1_;have HO_6 := n2_;have HO206 := n3_;have HO209 := n4_;have HO212 := n5_;have HO216 := n6_;have HO218 := n7_;have HO221 := n8_;have HO224 := n9_;have HB := n10_;clear n0_ n1_ n2_ n3_ n4_ n5_ n6_ n7_ n8_ n9_ n10_;clear hb ho103;obtain ⟨Ao104,co104,eo104⟩ := Kd.R_slice HO221.out;subst eo104;obtain ⟨Ao105,co105,eo105⟩ := Kd.R_slice HO224.out;subst eo105)|((with_reducible refine gate_callee (f := 20) rfl ?_);refine goesL_ (some 105) rfl rfl Tryd.func20 (by kernel_rfl) rfl #[.slice Ao104 t219.length co104,.slice Ao105 y222.length co105] rfl (by (try simp only [List.map_toArray,List.map_cons,List.map_nil]);first|done|rfl|(simp only [List.length_drop,List.length_take];rfl)) ?_;(with_reducible refine (codesearchref25_Changes.calls kj39 _ _ t219 _ _ y222 true _ ?side1 ?side2 ?side3 ?side4 A99.out).mono ?_);(case side1 => exact cM (Kd.R_reads' HO221.out).2.2);(case side2 => exact (Kd.R_reads' HO221.out).2.1);(case side3 => exact cM (Kd.R_reads' HO224.out).2.2);(case side4 => exact (Kd.R_reads' HO224.out).2.1);rintro e w' ⟨rfl,⟨nd,rfl⟩⟩;refine ⟨_,rfl,?_⟩))
             go_meet
             case rel => exact ⟨_,(!t203),(by first|rfl|(simp;done)|(simp [*];done)),H',⟨by have := HJ2.out;have := HJ22.out;have := HJ39.out;first|omega|exact Nat.le_refl _⟩,⟨rM (Kd.R_mono HO216.out (fun _ hk => trivial))⟩,⟨rM HO218.out⟩,⟨bM HB.out⟩⟩
            ·rw [if_neg c101] at H
             have c101b0 : (t202 == 1) = false := beq_eq_false_iff_ne.mpr c101
             have c101b1 : (t202 != 1) = true := bne_iff_ne.mpr c101
             (first|rw [c101b0]|(simp only [i64_w,i32_w];rw [c101b0])|rw [c101b1]|skip)
             have H' := Aside0.mk H
             clear H
             go_wp2_with (first|((with_reducible refine gate_dst (N := 104) rfl ?_);(try (refine gate_guard (by rfl) ?_;dsimp only));refine Kd.R_lit k47 _ 47 ?hg (N := 104) ?hd (xs := ([(⟨(⟨#[97]⟩ : ByteArray),5⟩ : S47),(⟨(⟨#[98]⟩ : ByteArray),0⟩ : S47)] : List (S47))) (inner := [.string (⟨#[97]⟩ : ByteArray),.int .i64 5,.string (⟨#[98]⟩ : ByteArray),.int .i64 0]) (ok := fun _ => True) (okp := fun _ => True) ?hr ?hp (fun _ hk => hk) trivial (Below.refl _ _) (Nat.le_refl _) (by simp) ?_;(case hd => rfl);(case hg => rfl);(case hr => first|(go_simp;done)|(go_simp;rfl));(case hp => exact (Reps.c2 (show Kd.M k47 _ _ _ (⟨(⟨#[97]⟩ : ByteArray),5⟩ : S47) [.string (⟨#[97]⟩ : ByteArray),.int .i64 5] from (k47_mkM _ _ _ (⟨(⟨#[97]⟩ : ByteArray),5⟩ : S47) )) (Reps.c2 (show Kd.M k47 _ _ _ (⟨(⟨#[98]⟩ : ByteArray),0⟩ : S47) [.string (⟨#[98]⟩ : ByteArray),.int .i64 0] from (k47_mkM _ _ _ (⟨(⟨#[98]⟩ : ByteArray),0⟩ : S47) )) (Reps.none _ _))));intro v223 w106 ho107 hb hg_ hnew_;clear hg_ hnew_;(first|rw [← Ny222.out] at ho107|(simp only [Int.reduceToNat] at ho107;rw [← Ny222.out] at ho107));have n0_ := Aside0.mk (Kd.R_below (rM HO_1.out) hb);have n1_ := Aside0.mk (Kd.R_below (rM HO_2.out) hb);have n2_ := Aside0.mk (Kd.R_below (rM HO_6.out) hb);have n3_ := Aside0.mk (Kd.R_below (rM HO206.out) hb);have n4_ := Aside0.mk (Kd.R_below (rM HO209.out) hb);have n5_ := Aside0.mk (Kd.R_below (rM HO212.out) hb);have n6_ := Aside0.mk (Kd.R_below (rM HO216.out) hb);have n7_ := Aside0.mk (Kd.R_below (rM HO218.out) hb);have n8_ := Aside0.mk (Kd.R_elder' (rM HO221.out) (Kd.R_base ho107) hb);have n9_ := Aside0.mk (Kd.R_lower (Kd.R_new' ho107 (Kd.R_lt (rM HO221.out))) (below_size (bM HB.out)));have n10_ := Aside0.mk (below_step (bM HB.out) hb);clear HO_1;clear HO_2;clear HO_6;clear HO206;clear HO209;clear HO212;clear HO216;clear HO218;clear HO221;clear HB;have HO_1 := n0_;have HO_2 := n1_;have HO_6 := n2_;have HO206 := n3_;have HO209 := n4_;have HO212 := n5_;have HO216 := n6_;have HO218 := n7_;have HO221 := n8_;have HO224 := n9_;have HB := n10_;clear n0_ n1_ n2_ n3_ n4_ n5_ n6_ n7_ n8_ n9_ n10_;clear hb ho107;obtain ⟨Ao108,co108,eo108⟩ := Kd.R_slice HO221.out;subst eo108;obtain ⟨Ao109,co109,eo109⟩ := Kd.R_slice HO224.out;subst eo109)|((with_reducible refine gate_callee (f := 20) rfl ?_);refine goesL_ (some 105) rfl rfl Tryd.func20 (by kernel_rfl) rfl #[.slice Ao108 t219.length co108,.slice Ao109 y222.length co109] rfl (by (try simp only [List.map_toArray,List.map_cons,List.map_nil]);first|done|rfl|(simp only [List.length_drop,List.length_take];rfl)) ?_;(with_reducible refine (codesearchref25_Changes.calls kj39 _ _ t219 _ _ y222 true _ ?side1 ?side2 ?side3 ?side4 A99.out).mono ?_);(case side1 => exact cM (Kd.R_reads' HO221.out).2.2);(case side2 => exact (Kd.R_reads' HO221.out).2.1);(case side3 => exact cM (Kd.R_reads' HO224.out).2.2);(case side4 => exact (Kd.R_reads' HO224.out).2.1);rintro e w' ⟨rfl,⟨nd,rfl⟩⟩;refine ⟨_,rfl,?_⟩))
             go_meet
             case rel => exact ⟨_,(true),(by first|rfl|(simp;done)|(simp [*];done)),H',⟨by have := HJ2.out;have := HJ22.out;have := HJ39.out;first|omega|exact Nat.le_refl _⟩,⟨rM (Kd.R_mono HO216.out (fun _ hk => trivial))⟩,⟨rM HO218.out⟩,⟨bM HB.out⟩⟩
           ·replace c100 := Bool.eq_false_iff.mpr c100
            subst c100
            have H1 : (codesearchlaw25_alive.j3 kj39 t213 t214 true) = some r := by rw [if_neg (show ¬ (false = true) by decide)] at H;exact H
            clear H
            have H := H1
            clear H1
            have H' := Aside0.mk H
            clear H
            go_wp2_with (first|((with_reducible refine gate_dst (N := 104) rfl ?_);(try (refine gate_guard (by rfl) ?_;dsimp only));refine Kd.R_lit k47 _ 47 ?hg (N := 104) ?hd (xs := ([(⟨(⟨#[97]⟩ : ByteArray),5⟩ : S47),(⟨(⟨#[98]⟩ : ByteArray),0⟩ : S47)] : List (S47))) (inner := [.string (⟨#[97]⟩ : ByteArray),.int .i64 5,.string (⟨#[98]⟩ : ByteArray),.int .i64 0]) (ok := fun _ => True) (okp := fun _ => True) ?hr ?hp (fun _ hk => hk) trivial (Below.refl _ _) (Nat.le_refl _) (by simp) ?_;(case hd => rfl);(case hg => rfl);(case hr => first|(go_simp;done)|(go_simp;rfl));(case hp => exact (Reps.c2 (show Kd.M k47 _ _ _ (⟨(⟨#[97]⟩ : ByteArray),5⟩ : S47) [.string (⟨#[97]⟩ : ByteArray),.int .i64 5] from (k47_mkM _ _ _ (⟨(⟨#[97]⟩ : ByteArray),5⟩ : S47) )) (Reps.c2 (show Kd.M k47 _ _ _ (⟨(⟨#[98]⟩ : ByteArray),0⟩ : S47) [.string (⟨#[98]⟩ : ByteArray),.int .i64 0] from (k47_mkM _ _ _ (⟨(⟨#[98]⟩ : ByteArray),0⟩ : S47) )) (Reps.none _ _))));intro v223 w110 ho111 hb hg_ hnew_;clear hg_ hnew_;(first|rw [← Ny222.out] at ho111|(simp only [Int.reduceToNat] at ho111;rw [← Ny222.out] at ho111));have n0_ := Aside0.mk (Kd.R_below (rM HO_1.out) hb);have n1_ := Aside0.mk (Kd.R_below (rM HO_2.out) hb);have n2_ := Aside0.mk (Kd.R_below (rM HO_6.out) hb);have n3_ := Aside0.mk (Kd.R_below (rM HO206.out) hb);have n4_ := Aside0.mk (Kd.R_below (rM HO209.out) hb);have n5_ := Aside0.mk (Kd.R_below (rM HO212.out) hb);have n6_ := Aside0.mk (Kd.R_below (rM HO216.out) hb);have n7_ := Aside0.mk (Kd.R_below (rM HO218.out) hb);have n8_ := Aside0.mk (Kd.R_elder' (rM HO221.out) (Kd.R_base ho111) hb);have n9_ := Aside0.mk (Kd.R_lower (Kd.R_new' ho111 (Kd.R_lt (rM HO221.out))) (below_size (bM HB.out)));have n10_ := Aside0.mk (below_step (bM HB.out) hb);clear HO_1;clear HO_2;clear HO_6;clear HO206;clear HO209;clear HO212;clear HO216;clear HO218;clear HO221;clear HB;have HO_1 := n0_;have HO_2 := n1_;have HO_6 := n2_;have HO206 := n3_;have HO209 := n4_;have HO212 := n5_;have HO216 := n6_;have HO218 := n7_;have HO221 := n8_;have HO224 := n9_;have HB := n10_;clear n0_ n1_ n2_ n3_ n4_ n5_ n6_ n7_ n8_ n9_ n10_;clear hb ho111;obtain ⟨Ao112,co112,eo112⟩ := Kd.R_slice HO221.out;subst eo112;obtain ⟨Ao113,co113,eo113⟩ := Kd.R_slice HO224.out;subst eo113)|((with_reducible refine gate_callee (f := 20) rfl ?_);refine goesL_ (some 105) rfl rfl Tryd.func20 (by kernel_rfl) rfl #[.slice Ao112 t219.length co112,.slice Ao113 y222.length co113] rfl (by (try simp only [List.map_toArray,List.map_cons,List.map_nil]);first|done|rfl|(simp only [List.length_drop,List.length_take];rfl)) ?_;(with_reducible refine (codesearchref25_Changes.calls kj39 _ _ t219 _ _ y222 false _ ?side1 ?side2 ?side3 ?side4 A99.out).mono ?_);(case side1 => exact cM (Kd.R_reads' HO221.out).2.2);(case side2 => exact (Kd.R_reads' HO221.out).2.1);(case side3 => exact cM (Kd.R_reads' HO224.out).2.2);(case side4 => exact (Kd.R_reads' HO224.out).2.1);rintro e w' ⟨rfl,⟨nd,rfl⟩⟩;refine ⟨_,rfl,?_⟩))
            go_meet
            case rel => exact ⟨_,(true),(by first|rfl|(simp;done)|(simp [*];done)),H',⟨by have := HJ2.out;have := HJ22.out;have := HJ39.out;first|omega|exact Nat.le_refl _⟩,⟨rM (Kd.R_mono HO216.out (fun _ hk => trivial))⟩,⟨rM HO218.out⟩,⟨bM HB.out⟩⟩
          case rest =>
           clear HC84
           try clear c1
           try clear c2
           try clear p2
           try clear c3
           try clear c4
           try clear c8
           try clear c10
           try clear c11
           try clear c12
           try clear c14
           try clear c15
           try clear c15b0
           try clear c15b1
           try clear c16
           try clear c16b0
           try clear c16b1
           try clear c20
           try clear c21
           try clear c22
           try clear c25
           try clear c25b0
           try clear c25b1
           try clear c26
           try clear c28
           try clear c39
           try clear c45
           try clear c48
           try clear c80
           try clear c100
           try clear c101
           try clear c101b0
           try clear c101b1
           try clear p2
           obtain ⟨kq,x114_83,rfl,HA,HJ83,HO_10,HO_11,HB⟩ := hcut
           cases kq with
          |zero => exact absurd HA.out (by simp [codesearchlaw25_alive.j3])
          |succ kj83 =>
            have H := HA.out
            clear HA
            simp only [codesearchlaw25_alive.j3] at H
            by_cases c114 : x114_83 = true
            ·subst c114
             have H1 : (some false) = some r := by rw [if_pos rfl] at H;exact H
             clear H
             have H := H1
             clear H1
             obtain rfl := Option.some.inj H
             go_wp2
             go_ret
             exact ⟨by first|rfl|(simp [errW_none,errW_some] <;> rfl)|(simp [*,errW_none,errW_some] <;> rfl),bM HB.out⟩
            ·replace c114 := Bool.eq_false_iff.mpr c114
             subst c114
             have H1 : ((codesearchref25_Files.f kj83 t213 (([(⟨(⟨#[97]⟩ : ByteArray),2⟩ : S45),(⟨(⟨#[99]⟩ : ByteArray),3⟩ : S45)] : List (S45)))).bind fun t229 => (if t229 = true then ((codesearchref01_Strings.f kj83 t214 (([(⟨#[97]⟩ : ByteArray)] : List ByteArray))).bind fun t233 => (some t233)) else (some false))) = some r := by rw [if_neg (show ¬ (false = true) by decide)] at H;exact H
             clear H
             have H := H1
             clear H1
             obtain ⟨y226,hy226⟩ : ∃ y_ : List (S45),y_ = (([(⟨(⟨#[97]⟩ : ByteArray),2⟩ : S45),(⟨(⟨#[99]⟩ : ByteArray),3⟩ : S45)] : List (S45))) := ⟨_,rfl⟩
             replace H : ((codesearchref25_Files.f kj83 t213 y226).bind fun t229 => (if t229 = true then ((codesearchref01_Strings.f kj83 t214 (([(⟨#[97]⟩ : ByteArray)] : List ByteArray))).bind fun t233 => (some t233)) else (some false))) = some r := by first|(rw [hy226];with_reducible exact H)|(have H2_ := (Option.bind_some _ _).symm.trans H;rw [hy226];with_reducible exact H2_)|(have H2_ := (Option.bind_some _ _).symm.trans H;with_reducible exact H2_)|with_reducible exact H|(rw [hy226];exact H)|exact H
             have Ny226 := Aside0.mk hy226
             clear hy226
             replace H := Option.bind_eq_some_iff.mp H
             obtain ⟨t229,A1150,H⟩ := H
             replace H : (if t229 = true then ((codesearchref01_Strings.f kj83 t214 (([(⟨#[97]⟩ : ByteArray)] : List ByteArray))).bind fun t233 => (some t233)) else (some false)) = some r := H
             have A115 := Aside0.mk A1150
             clear A1150
             by_cases c116 : t229 = true
             ·subst c116
              have H1 : ((codesearchref01_Strings.f kj83 t214 (([(⟨#[97]⟩ : ByteArray)] : List ByteArray))).bind fun t233 => (some t233)) = some r := by rw [if_pos rfl] at H;exact H
              clear H
              have H := H1
              clear H1
              obtain ⟨y230,hy230⟩ : ∃ y_ : List ByteArray,y_ = (([(⟨#[97]⟩ : ByteArray)] : List ByteArray)) := ⟨_,rfl⟩
              replace H : ((codesearchref01_Strings.f kj83 t214 y230).bind fun t233 => (some t233)) = some r := by first|(rw [hy230];with_reducible exact H)|(have H2_ := (Option.bind_some _ _).symm.trans H;rw [hy230];with_reducible exact H2_)|(have H2_ := (Option.bind_some _ _).symm.trans H;with_reducible exact H2_)|with_reducible exact H|(rw [hy230];exact H)|exact H
              have Ny230 := Aside0.mk hy230
              clear hy230
              replace H := Option.bind_eq_some_iff.mp H
              obtain ⟨t233,A1170,H⟩ := H
              replace H : (some t233) = some r := H
              have A117 := Aside0.mk A1170
              clear A1170
              obtain rfl := Option.some.inj H
              go_wp2_with (first|((with_reducible refine gate_dst (N := 118) rfl ?_);(try (refine gate_guard (by rfl) ?_;dsimp only));refine Kd.R_lit k45 _ 45 ?hg (N := 118) ?hd (xs := ([(⟨(⟨#[97]⟩ : ByteArray),2⟩ : S45),(⟨(⟨#[99]⟩ : ByteArray),3⟩ : S45)] : List (S45))) (inner := [.string (⟨#[97]⟩ : ByteArray),.int .i64 2,.string (⟨#[99]⟩ : ByteArray),.int .i64 3]) (ok := fun _ => True) (okp := fun _ => True) ?hr ?hp (fun _ hk => hk) trivial (Below.refl _ _) (Nat.le_refl _) (by simp) ?_;(case hd => rfl);(case hg => rfl);(case hr => first|(go_simp;done)|(go_simp;rfl));(case hp => exact (Reps.c2 (show Kd.M k45 _ _ _ (⟨(⟨#[97]⟩ : ByteArray),2⟩ : S45) [.string (⟨#[97]⟩ : ByteArray),.int .i64 2] from (k45_mkM _ _ _ (⟨(⟨#[97]⟩ : ByteArray),2⟩ : S45) )) (Reps.c2 (show Kd.M k45 _ _ _ (⟨(⟨#[99]⟩ : ByteArray),3⟩ : S45) [.string (⟨#[99]⟩ : ByteArray),.int .i64 3] from (k45_mkM _ _ _ (⟨(⟨#[99]⟩ : ByteArray),3⟩ : S45) )) (Reps.none _ _))));intro v227 w118 ho119 hb hg_ hnew_;clear hg_ hnew_;(first|rw [← Ny226.out] at ho119|(simp only [Int.reduceToNat] at ho119;rw [← Ny226.out] at ho119));have n0_ := Aside0.mk (Kd.R_elder' (rM HO_10.out) (Kd.R_base ho119) hb);have n1_ := Aside0.mk (Kd.R_below (rM HO_11.out) hb);have n2_ := Aside0.mk (Kd.R_lower (Kd.R_new' ho119 (Kd.R_lt (rM HO_10.out))) (below_size (bM HB.out)));have n3_ := Aside0.mk (below_step (bM HB.out) hb);clear HO_10;clear HO_11;clear HB;have HO_10 := n0_;have HO_11 := n1_;have HO228 := n2_;have HB := n3_;clear n0_ n1_ n2_ n3_;clear hb ho119;obtain ⟨Ao120,co120,eo120⟩ := Kd.R_slice HO_10.out;subst eo120;obtain ⟨Ao121,co121,eo121⟩ := Kd.R_slice HO228.out;subst eo121)|((with_reducible refine gate_callee (f := 18) rfl ?_);refine goesL_ (some 119) rfl rfl Tryd.func18 (by kernel_rfl) rfl #[.slice Ao120 t213.length co120,.slice Ao121 y226.length co121] rfl (by (try simp only [List.map_toArray,List.map_cons,List.map_nil]);first|done|rfl|(simp only [List.length_drop,List.length_take];rfl)) ?_;(with_reducible refine (codesearchref25_Files.calls kj83 _ _ t213 _ _ y226 true _ ?side1 ?side2 ?side3 ?side4 A115.out).mono ?_);(case side1 => exact cM (Kd.R_reads' HO_10.out).2.2);(case side2 => exact (Kd.R_reads' HO_10.out).2.1);(case side3 => exact cM (Kd.R_reads' HO228.out).2.2);(case side4 => exact (Kd.R_reads' HO228.out).2.1);rintro e w' ⟨rfl,⟨nd,rfl⟩⟩;refine ⟨_,rfl,?_⟩)|((with_reducible refine gate_dst (N := 122) rfl ?_);(try (refine gate_guard (by rfl) ?_;dsimp only));refine Kd.R_lit Kd.string _ 9 ?hg (N := 122) ?hd (xs := ([(⟨#[97]⟩ : ByteArray)] : List ByteArray)) (inner := [.string (⟨#[97]⟩ : ByteArray)]) (ok := fun _ => True) (okp := fun _ => True) ?hr ?hp (fun _ hk => hk) trivial (Below.refl _ _) (Nat.le_refl _) (by simp) ?_;(case hd => rfl);(case hg => rfl);(case hr => first|(go_simp;done)|(go_simp;rfl));(case hp => exact (Reps.one (show Kd.M Kd.string _ _ _ (⟨#[97]⟩ : ByteArray) [.string (⟨#[97]⟩ : ByteArray)] from rfl) (Reps.none _ _)));intro v231 w122 ho123 hb hg_ hnew_;clear hg_ hnew_;(first|rw [← Ny230.out] at ho123|(simp only [Int.reduceToNat] at ho123;rw [← Ny230.out] at ho123));have n0_ := Aside0.mk (Kd.R_below (rM HO_10.out) hb);have n1_ := Aside0.mk (Kd.R_elder' (rM HO_11.out) (Kd.R_base ho123) hb);have n2_ := Aside0.mk (Kd.R_below (rM HO228.out) hb);have n3_ := Aside0.mk (Kd.R_lower (Kd.R_new' ho123 (Kd.R_lt (rM HO_11.out))) (below_size (bM HB.out)));have n4_ := Aside0.mk (below_step (bM HB.out) hb);clear HO_10;clear HO_11;clear HO228;clear HB;have HO_10 := n0_;have HO_11 := n1_;have HO228 := n2_;have HO232 := n3_;have HB := n4_;clear n0_ n1_ n2_ n3_ n4_;clear hb ho123;obtain ⟨Ao124,co124,eo124⟩ := Kd.R_slice HO_11.out;subst eo124;obtain ⟨Ao125,co125,eo125⟩ := Kd.R_slice HO232.out;subst eo125)|(go_at_call 25;(with_reducible refine (codesearchref01_Strings.calls kj83 _ _ t214 _ _ y230 t233 _ ?side1 ?side2 ?side3 ?side4 A117.out).mono ?_);(case side1 => exact cM (Kd.R_reads' HO_11.out).2.2);(case side2 => exact (Kd.R_reads' HO_11.out).2.1);(case side3 => exact cM (Kd.R_reads' HO232.out).2.2);(case side4 => exact (Kd.R_reads' HO232.out).2.1);rintro e w' ⟨rfl,⟨nd,rfl⟩⟩))
              go_ret
              exact ⟨by first|rfl|(simp [errW_none,errW_some] <;> rfl)|(simp [*,errW_none,errW_some] <;> rfl),bM HB.out⟩
             ·replace c116 := Bool.eq_false_iff.mpr c116
              subst c116
              have H1 : (some false) = some r := by rw [if_neg (show ¬ (false = true) by decide)] at H;exact H
              clear H
              have H := H1
              clear H1
              obtain rfl := Option.some.inj H
              go_wp2_with (first|((with_reducible refine gate_dst (N := 118) rfl ?_);(try (refine gate_guard (by rfl) ?_;dsimp only));refine Kd.R_lit k45 _ 45 ?hg (N := 118) ?hd (xs := ([(⟨(⟨#[97]⟩ : ByteArray),2⟩ : S45),(⟨(⟨#[99]⟩ : ByteArray),3⟩ : S45)] : List (S45))) (inner := [.string (⟨#[97]⟩ : ByteArray),.int .i64 2,.string (⟨#[99]⟩ : ByteArray),.int .i64 3]) (ok := fun _ => True) (okp := fun _ => True) ?hr ?hp (fun _ hk => hk) trivial (Below.refl _ _) (Nat.le_refl _) (by simp) ?_;(case hd => rfl);(case hg => rfl);(case hr => first|(go_simp;done)|(go_simp;rfl));(case hp => exact (Reps.c2 (show Kd.M k45 _ _ _ (⟨(⟨#[97]⟩ : ByteArray),2⟩ : S45) [.string (⟨#[97]⟩ : ByteArray),.int .i64 2] from (k45_mkM _ _ _ (⟨(⟨#[97]⟩ : ByteArray),2⟩ : S45) )) (Reps.c2 (show Kd.M k45 _ _ _ (⟨(⟨#[99]⟩ : ByteArray),3⟩ : S45) [.string (⟨#[99]⟩ : ByteArray),.int .i64 3] from (k45_mkM _ _ _ (⟨(⟨#[99]⟩ : ByteArray),3⟩ : S45) )) (Reps.none _ _))));intro v227 w126 ho127 hb hg_ hnew_;clear hg_ hnew_;(first|rw [← Ny226.out] at ho127|(simp only [Int.reduceToNat] at ho127;rw [← Ny226.out] at ho127));have n0_ := Aside0.mk (Kd.R_elder' (rM HO_10.out) (Kd.R_base ho127) hb);have n1_ := Aside0.mk (Kd.R_below (rM HO_11.out) hb);have n2_ := Aside0.mk (Kd.R_lower (Kd.R_new' ho127 (Kd.R_lt (rM HO_10.out))) (below_size (bM HB.out)));have n3_ := Aside0.mk (below_step (bM HB.out) hb);clear HO_10;clear HO_11;clear HB;have HO_10 := n0_;have HO_11 := n1_;have HO228 := n2_;have HB := n3_;clear n0_ n1_ n2_ n3_;clear hb ho127;obtain ⟨Ao128,co128,eo128⟩ := Kd.R_slice HO_10.out;subst eo128;obtain ⟨Ao129,co129,eo129⟩ := Kd.R_slice HO228.out;subst eo129)|((with_reducible refine gate_callee (f := 18) rfl ?_);refine goesL_ (some 119) rfl rfl Tryd.func18 (by kernel_rfl) rfl #[.slice Ao128 t213.length co128,.slice Ao129 y226.length co129] rfl (by (try simp only [List.map_toArray,List.map_cons,List.map_nil]);first|done|rfl|(simp only [List.length_drop,List.length_take];rfl)) ?_;(with_reducible refine (codesearchref25_Files.calls kj83 _ _ t213 _ _ y226 false _ ?side1 ?side2 ?side3 ?side4 A115.out).mono ?_);(case side1 => exact cM (Kd.R_reads' HO_10.out).2.2);(case side2 => exact (Kd.R_reads' HO_10.out).2.1);(case side3 => exact cM (Kd.R_reads' HO228.out).2.2);(case side4 => exact (Kd.R_reads' HO228.out).2.1);rintro e w' ⟨rfl,⟨nd,rfl⟩⟩;refine ⟨_,rfl,?_⟩))
              go_ret
              exact ⟨by first|rfl|(simp [errW_none,errW_some] <;> rfl)|(simp [*,errW_none,errW_some] <;> rfl),bM HB.out⟩

/-! ### codesearchref02_Letter: function 52 -/
def codesearchref02_Letter.f (a0 : Int) : Option (Bool) := if a0 ≥ 65 then (if a0 ≤ 90 then (some true) else (if a0 ≥ 97 then (some (decide (a0 ≤ 122))) else (some false))) else (if a0 ≥ 97 then (some (decide (a0 ≤ 122))) else (some false))
set_option maxHeartbeats 4000000 in
set_option maxRecDepth 100000 in
theorem codesearchref02_Letter.calls (a0 : Int) (r : Bool) (w : World) (h : codesearchref02_Letter.f a0 = some r) :
  Calls Tryd.prog 52 #[.int .u8 a0] w fun e w' => e = .returned (.bool r) ∧ Drawn0 w w' := by
 have H : (if a0 ≥ 65 then (if a0 ≤ 90 then (some true) else (if a0 ≥ 97 then (some (decide (a0 ≤ 122))) else (some false))) else (if a0 ≥ 97 then (some (decide (a0 ≤ 122))) else (some false))) = some r := h
 clear h
 by_cases c2 : a0 ≥ 65
 ·rw [if_pos c2] at H
  have c2b0 : decide (65 ≤ a0) = true := decide_eq_true c2
  clear c2
  by_cases c3 : a0 ≤ 90
  ·rw [if_pos c3] at H
   have c3b0 : decide (a0 ≤ 90) = true := decide_eq_true c3
   clear c3
   obtain rfl := Option.some.inj H
   go_enter Tryd.func52,Tryd.ntmps52
   go_wp2
   go_ret
   exact ⟨by first|rfl|(simp;done)|(simp [*];done),by repeat (first|exact Drawn0.refl _|apply Drawn0.step)⟩
  ·rw [if_neg c3] at H
   have c3b0 : decide (a0 ≤ 90) = false := decide_eq_false c3
   clear c3
   by_cases c4 : a0 ≥ 97
   ·rw [if_pos c4] at H
    have c4b0 : decide (97 ≤ a0) = true := decide_eq_true c4
    clear c4
    obtain rfl := Option.some.inj H
    go_enter Tryd.func52,Tryd.ntmps52
    go_wp2
    go_ret
    exact ⟨by first|rfl|(simp;done)|(simp [*];done),by repeat (first|exact Drawn0.refl _|apply Drawn0.step)⟩
   ·rw [if_neg c4] at H
    have c4b0 : decide (97 ≤ a0) = false := decide_eq_false c4
    clear c4
    obtain rfl := Option.some.inj H
    go_enter Tryd.func52,Tryd.ntmps52
    go_wp2
    go_ret
    exact ⟨by first|rfl|(simp;done)|(simp [*];done),by repeat (first|exact Drawn0.refl _|apply Drawn0.step)⟩
 ·rw [if_neg c2] at H
  have c2b0 : decide (65 ≤ a0) = false := decide_eq_false c2
  clear c2
  by_cases c5 : a0 ≥ 97
  ·rw [if_pos c5] at H
   have c5b0 : decide (97 ≤ a0) = true := decide_eq_true c5
   clear c5
   obtain rfl := Option.some.inj H
   go_enter Tryd.func52,Tryd.ntmps52
   go_wp2
   go_ret
   exact ⟨by first|rfl|(simp;done)|(simp [*];done),by repeat (first|exact Drawn0.refl _|apply Drawn0.step)⟩
  ·rw [if_neg c5] at H
   have c5b0 : decide (97 ≤ a0) = false := decide_eq_false c5
   clear c5
   obtain rfl := Option.some.inj H
   go_enter Tryd.func52,Tryd.ntmps52
   go_wp2
   go_ret
   exact ⟨by first|rfl|(simp;done)|(simp [*];done),by repeat (first|exact Drawn0.refl _|apply Drawn0.step)⟩

/-! ### codesearchref02_Digit: function 53 -/
def codesearchref02_Digit.f (a0 : Int) : Option (Bool) := if a0 ≥ 48 then (some (decide (a0 ≤ 57))) else (some false)
set_option maxHeartbeats 4000000 in
set_option maxRecDepth 100000 in
theorem codesearchref02_Digit.calls (a0 : Int) (r : Bool) (w : World) (h : codesearchref02_Digit.f a0 = some r) :
  Calls Tryd.prog 53 #[.int .u8 a0] w fun e w' => e = .returned (.bool r) ∧ Drawn0 w w' := by
 have H : (if a0 ≥ 48 then (some (decide (a0 ≤ 57))) else (some false)) = some r := h
 clear h
 by_cases c2 : a0 ≥ 48
 ·rw [if_pos c2] at H
  have c2b0 : decide (48 ≤ a0) = true := decide_eq_true c2
  clear c2
  obtain rfl := Option.some.inj H
  go_enter Tryd.func53,Tryd.ntmps53
  go_wp2
  go_ret
  exact ⟨by first|rfl|(simp;done)|(simp [*];done),by repeat (first|exact Drawn0.refl _|apply Drawn0.step)⟩
 ·rw [if_neg c2] at H
  have c2b0 : decide (48 ≤ a0) = false := decide_eq_false c2
  clear c2
  obtain rfl := Option.some.inj H
  go_enter Tryd.func53,Tryd.ntmps53
  go_wp2
  go_ret
  exact ⟨by first|rfl|(simp;done)|(simp [*];done),by repeat (first|exact Drawn0.refl _|apply Drawn0.step)⟩

end Go.Proofs.YtpnhamfodjfacaaDoor.N
