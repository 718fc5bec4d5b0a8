-- Written by hp.py, a program of this session, over the kit's print of the translation. Not trusted: Lean checks it.
import Derived.Test.YtpnhamfodjfacaaDoorMx0
import Derived.Test.YtpnhamfodjfacaaDoorMx1
import Derived.Test.YtpnhamfodjfacaaDoorMx2
import Derived.Test.YtpnhamfodjfacaaDoorMx3
import Derived.Test.YtpnhamfodjfacaaDoorMx4
import Derived.Test.YtpnhamfodjfacaaDoorMx5
import Derived.Test.YtpnhamfodjfacaaDoorMx6
import Derived.Test.YtpnhamfodjfacaaDoorMx7
import Derived.Test.YtpnhamfodjfacaaDoorMx8
import Derived.Test.YtpnhamfodjfacaaDoorMx9
import Derived.Test.YtpnhamfodjfacaaDoorMx10
import Derived.Test.YtpnhamfodjfacaaDoorMx11
import Derived.Test.YtpnhamfodjfacaaDoorMx12
namespace Go.Proofs.YtpnhamfodjfacaaDoor.M
open Go.RowKit Go.Proofs.YtpnhamfodjfacaaDoorW.PrintWords Go.Proofs.YtpnhamfodjfacaaDoorW.PrintLast Go.Proofs.YtpnhamfodjfacaaDoorW.PrintMore
attribute [local go_sem] max2_int min2_int max_two min_two max_three min_three max_four min_four   -- for this text's walks alone
set_option linter.unusedVariables false
set_option linter.unusedSimpArgs false

/-! ### codesearchlaw25_TreeMergesT: function 8 -/
mutual
def codesearchlaw25_TreeMergesT.l0 : Nat → List (S45) → List (S45) → List (S45) → List (S45) → List ByteArray → List (S45) → List (List (S45)) → Int → Option (Bool)
|0,_,_,_,_,_,_,_,_ => none
|k + 1,x0,x1,x2,x7,x8,x9,x11,x12 => if x12 < (x11.length : Int) then (codesearchlaw25_TreeMergesT.l1 k x0 x1 x2 x7 x8 x9 x11 x12 0) else (some true)
def codesearchlaw25_TreeMergesT.l1 : Nat → List (S45) → List (S45) → List (S45) → List (S45) → List ByteArray → List (S45) → List (List (S45)) → Int → Int → Option (Bool)
|0,_,_,_,_,_,_,_,_,_ => none
|k + 1,x0,x1,x2,x7,x8,x9,x11,x12,x13 => if 0 ≤ x12 then (if x12 < (x11.length : Int) then (if x13 < ((rd_L4 x11 x12).length : Int) then (if 0 ≤ x13 then ((codesearchlaw25_held.f k x0 ((rd_T45 (rd_L4 x11 x12) x13).f0)).bind fun t326 => ((codesearchlaw25_held.f k x1 ((rd_T45 (rd_L4 x11 x12) x13).f0)).bind fun t327 => ((codesearchlaw25_held.f k x2 ((rd_T45 (rd_L4 x11 x12) x13).f0)).bind fun t328 => ((codesearchlaw25_held.f k x7 ((rd_T45 (rd_L4 x11 x12) x13).f0)).bind fun t329 => (if t327 = t326 then (if t329 = t328 then (if t328 = t326 then (if t329 = t327 then (if t327 = t328 then (codesearchlaw25_TreeMergesT.j2 k x0 x1 x2 x7 x8 x9 x11 x12 x13 ((rd_T45 (rd_L4 x11 x12) x13).f0) t326 t327 t328 t329 (t329 != t327)) else (codesearchlaw25_TreeMergesT.j2 k x0 x1 x2 x7 x8 x9 x11 x12 x13 ((rd_T45 (rd_L4 x11 x12) x13).f0) t326 t327 t328 t329 false)) else (codesearchlaw25_TreeMergesT.j2 k x0 x1 x2 x7 x8 x9 x11 x12 x13 ((rd_T45 (rd_L4 x11 x12) x13).f0) t326 t327 t328 t329 true)) else (if t327 = t328 then (codesearchlaw25_TreeMergesT.j2 k x0 x1 x2 x7 x8 x9 x11 x12 x13 ((rd_T45 (rd_L4 x11 x12) x13).f0) t326 t327 t328 t329 (t329 != t327)) else (codesearchlaw25_TreeMergesT.j2 k x0 x1 x2 x7 x8 x9 x11 x12 x13 ((rd_T45 (rd_L4 x11 x12) x13).f0) t326 t327 t328 t329 false))) else (codesearchlaw25_TreeMergesT.j2 k x0 x1 x2 x7 x8 x9 x11 x12 x13 ((rd_T45 (rd_L4 x11 x12) x13).f0) t326 t327 t328 t329 true)) else (if t328 = t326 then (if t329 = t327 then (if t327 = t328 then (codesearchlaw25_TreeMergesT.j2 k x0 x1 x2 x7 x8 x9 x11 x12 x13 ((rd_T45 (rd_L4 x11 x12) x13).f0) t326 t327 t328 t329 (t329 != t327)) else (codesearchlaw25_TreeMergesT.j2 k x0 x1 x2 x7 x8 x9 x11 x12 x13 ((rd_T45 (rd_L4 x11 x12) x13).f0) t326 t327 t328 t329 false)) else (codesearchlaw25_TreeMergesT.j2 k x0 x1 x2 x7 x8 x9 x11 x12 x13 ((rd_T45 (rd_L4 x11 x12) x13).f0) t326 t327 t328 t329 true)) else (if t327 = t328 then (codesearchlaw25_TreeMergesT.j2 k x0 x1 x2 x7 x8 x9 x11 x12 x13 ((rd_T45 (rd_L4 x11 x12) x13).f0) t326 t327 t328 t329 (t329 != t327)) else (codesearchlaw25_TreeMergesT.j2 k x0 x1 x2 x7 x8 x9 x11 x12 x13 ((rd_T45 (rd_L4 x11 x12) x13).f0) t326 t327 t328 t329 false)))))))) else (none)) else (codesearchlaw25_TreeMergesT.l0 k x0 x1 x2 x7 x8 x9 x11 (wrap64 (x12 + 1)))) else (none)) else (none)
def codesearchlaw25_TreeMergesT.j2 : Nat → List (S45) → List (S45) → List (S45) → List (S45) → List ByteArray → List (S45) → List (List (S45)) → Int → Int → ByteArray → Int → Int → Int → Int → Bool → Option (Bool)
|0,_,_,_,_,_,_,_,_,_,_,_,_,_,_,_ => none
|k + 1,x0,x1,x2,x7,x8,x9,x11,x12,x13,x14,x15,x16,x17,x18,x129 => if x129 = true then (some false) else (codesearchlaw25_TreeMergesT.l2 k x0 x1 x2 x7 x8 x9 x11 x12 x13 x14 x15 x16 x17 x18 false 0)
def codesearchlaw25_TreeMergesT.l2 : Nat → List (S45) → List (S45) → List (S45) → List (S45) → List ByteArray → List (S45) → List (List (S45)) → Int → Int → ByteArray → Int → Int → Int → Int → Bool → Int → Option (Bool)
|0,_,_,_,_,_,_,_,_,_,_,_,_,_,_,_,_ => none
|k + 1,x0,x1,x2,x7,x8,x9,x11,x12,x13,x14,x15,x16,x17,x18,x19,x20 => if x20 < (x8.length : Int) then (if x19 = true then (codesearchlaw25_TreeMergesT.l2 k x0 x1 x2 x7 x8 x9 x11 x12 x13 x14 x15 x16 x17 x18 true (wrap64 (x20 + 1))) else (if 0 ≤ x20 then (codesearchlaw25_TreeMergesT.l2 k x0 x1 x2 x7 x8 x9 x11 x12 x13 x14 x15 x16 x17 x18 ((rdOf ByteArray.empty x8 x20).toList == x14.toList) (wrap64 (x20 + 1))) else (none))) else (if x16 = x15 then (if (x19 != false) = true then (some false) else (if x19 = true then (codesearchlaw25_TreeMergesT.l1 k x0 x1 x2 x7 x8 x9 x11 x12 (wrap64 (x13 + 1))) else ((codesearchlaw25_held.f k x9 x14).bind fun t331 => (if t331 = x18 then (codesearchlaw25_TreeMergesT.l1 k x0 x1 x2 x7 x8 x9 x11 x12 (wrap64 (x13 + 1))) else (some false))))) else (if x17 = x15 then (if (x19 != false) = true then (some false) else (if x19 = true then (codesearchlaw25_TreeMergesT.l1 k x0 x1 x2 x7 x8 x9 x11 x12 (wrap64 (x13 + 1))) else ((codesearchlaw25_held.f k x9 x14).bind fun t332 => (if t332 = x18 then (codesearchlaw25_TreeMergesT.l1 k x0 x1 x2 x7 x8 x9 x11 x12 (wrap64 (x13 + 1))) else (some false))))) else (if (x19 != (x16 != x17)) = true then (some false) else (if x19 = true then (codesearchlaw25_TreeMergesT.l1 k x0 x1 x2 x7 x8 x9 x11 x12 (wrap64 (x13 + 1))) else ((codesearchlaw25_held.f k x9 x14).bind fun t333 => (if t333 = x18 then (codesearchlaw25_TreeMergesT.l1 k x0 x1 x2 x7 x8 x9 x11 x12 (wrap64 (x13 + 1))) else (some false)))))))
end
def codesearchlaw25_TreeMergesT.f (k : Nat) (l0 : List (S45)) (l1 : List (S45)) (l2 : List (S45)) (l3 : List (S45)) (l4 : List (S45)) (l5 : List ByteArray) : Option (Bool) := codesearchlaw25_TreeMergesT.l0 k l0 l1 l2 l3 l5 l4 (([l0, l1, l2, l3, l4] : List (List (S45)))) 0
theorem codesearchlaw25_TreeMergesT.mono_l : ∀ k, (∀ y0 y1 y2 y3 y4 y5 y6 y7, LeO (codesearchlaw25_TreeMergesT.l0 k y0 y1 y2 y3 y4 y5 y6 y7) (codesearchlaw25_TreeMergesT.l0 (k + 1) y0 y1 y2 y3 y4 y5 y6 y7)) ∧ (∀ y0 y1 y2 y3 y4 y5 y6 y7 y8, LeO (codesearchlaw25_TreeMergesT.l1 k y0 y1 y2 y3 y4 y5 y6 y7 y8) (codesearchlaw25_TreeMergesT.l1 (k + 1) y0 y1 y2 y3 y4 y5 y6 y7 y8)) ∧ (∀ y0 y1 y2 y3 y4 y5 y6 y7 y8 y9 y10 y11 y12 y13 y14, LeO (codesearchlaw25_TreeMergesT.j2 k y0 y1 y2 y3 y4 y5 y6 y7 y8 y9 y10 y11 y12 y13 y14) (codesearchlaw25_TreeMergesT.j2 (k + 1) y0 y1 y2 y3 y4 y5 y6 y7 y8 y9 y10 y11 y12 y13 y14)) ∧ (∀ y0 y1 y2 y3 y4 y5 y6 y7 y8 y9 y10 y11 y12 y13 y14 y15, LeO (codesearchlaw25_TreeMergesT.l2 k y0 y1 y2 y3 y4 y5 y6 y7 y8 y9 y10 y11 y12 y13 y14 y15) (codesearchlaw25_TreeMergesT.l2 (k + 1) y0 y1 y2 y3 y4 y5 y6 y7 y8 y9 y10 y11 y12 y13 y14 y15))
|0 => ⟨fun _ _ _ _ _ _ _ _ r h => by simp [codesearchlaw25_TreeMergesT.l0] at h,fun _ _ _ _ _ _ _ _ _ r h => by simp [codesearchlaw25_TreeMergesT.l1] at h,fun _ _ _ _ _ _ _ _ _ _ _ _ _ _ _ r h => by simp [codesearchlaw25_TreeMergesT.j2] at h,fun _ _ _ _ _ _ _ _ _ _ _ _ _ _ _ _ r h => by simp [codesearchlaw25_TreeMergesT.l2] at h⟩
|k + 1 => by
  obtain ⟨ih0,ih1,ih2,ih3⟩ := codesearchlaw25_TreeMergesT.mono_l k
  refine ⟨?_,?_,?_,?_⟩
  ·intro y0 y1 y2 y3 y4 y5 y6 y7
   unfold codesearchlaw25_TreeMergesT.l0
   repeat' first
  |(with_reducible exact ih0 _ _ _ _ _ _ _ _)
  |(with_reducible exact ih1 _ _ _ _ _ _ _ _ _)
  |(with_reducible exact ih2 _ _ _ _ _ _ _ _ _ _ _ _ _ _ _)
  |(with_reducible exact ih3 _ _ _ _ _ _ _ _ _ _ _ _ _ _ _ _)
  |(with_reducible exact codesearchlaw25_held.mono _ _ _)
  |(with_reducible exact LeO.refl _)
  |(with_reducible exact LeO.none _)
  |(with_reducible refine LeO.ite ?_ ?_)
  |(with_reducible refine LeO.bind ?_ (fun _ => ?_))
  |exact ih0 _ _ _ _ _ _ _ _
  |exact ih1 _ _ _ _ _ _ _ _ _
  |exact ih2 _ _ _ _ _ _ _ _ _ _ _ _ _ _ _
  |exact ih3 _ _ _ _ _ _ _ _ _ _ _ _ _ _ _ _
  |exact codesearchlaw25_held.mono _ _ _
  |exact LeO.none _
  |refine LeO.ite ?_ ?_
  |refine LeO.bind ?_ (fun _ => ?_)
  ·intro y0 y1 y2 y3 y4 y5 y6 y7 y8
   unfold codesearchlaw25_TreeMergesT.l1
   repeat' first
  |(with_reducible exact ih0 _ _ _ _ _ _ _ _)
  |(with_reducible exact ih1 _ _ _ _ _ _ _ _ _)
  |(with_reducible exact ih2 _ _ _ _ _ _ _ _ _ _ _ _ _ _ _)
  |(with_reducible exact ih3 _ _ _ _ _ _ _ _ _ _ _ _ _ _ _ _)
  |(with_reducible exact codesearchlaw25_held.mono _ _ _)
  |(with_reducible exact LeO.refl _)
  |(with_reducible exact LeO.none _)
  |(with_reducible refine LeO.ite ?_ ?_)
  |(with_reducible refine LeO.bind ?_ (fun _ => ?_))
  |exact ih0 _ _ _ _ _ _ _ _
  |exact ih1 _ _ _ _ _ _ _ _ _
  |exact ih2 _ _ _ _ _ _ _ _ _ _ _ _ _ _ _
  |exact ih3 _ _ _ _ _ _ _ _ _ _ _ _ _ _ _ _
  |exact codesearchlaw25_held.mono _ _ _
  |exact LeO.none _
  |refine LeO.ite ?_ ?_
  |refine LeO.bind ?_ (fun _ => ?_)
  ·intro y0 y1 y2 y3 y4 y5 y6 y7 y8 y9 y10 y11 y12 y13 y14
   unfold codesearchlaw25_TreeMergesT.j2
   repeat' first
  |(with_reducible exact ih0 _ _ _ _ _ _ _ _)
  |(with_reducible exact ih1 _ _ _ _ _ _ _ _ _)
  |(with_reducible exact ih2 _ _ _ _ _ _ _ _ _ _ _ _ _ _ _)
  |(with_reducible exact ih3 _ _ _ _ _ _ _ _ _ _ _ _ _ _ _ _)
  |(with_reducible exact codesearchlaw25_held.mono _ _ _)
  |(with_reducible exact LeO.refl _)
  |(with_reducible exact LeO.none _)
  |(with_reducible refine LeO.ite ?_ ?_)
  |(with_reducible refine LeO.bind ?_ (fun _ => ?_))
  |exact ih0 _ _ _ _ _ _ _ _
  |exact ih1 _ _ _ _ _ _ _ _ _
  |exact ih2 _ _ _ _ _ _ _ _ _ _ _ _ _ _ _
  |exact ih3 _ _ _ _ _ _ _ _ _ _ _ _ _ _ _ _
  |exact codesearchlaw25_held.mono _ _ _
  |exact LeO.none _
  |refine LeO.ite ?_ ?_
  |refine LeO.bind ?_ (fun _ => ?_)
  ·intro y0 y1 y2 y3 y4 y5 y6 y7 y8 y9 y10 y11 y12 y13 y14 y15
   unfold codesearchlaw25_TreeMergesT.l2
   repeat' first
  |(with_reducible exact ih0 _ _ _ _ _ _ _ _)
  |(with_reducible exact ih1 _ _ _ _ _ _ _ _ _)
  |(with_reducible exact ih2 _ _ _ _ _ _ _ _ _ _ _ _ _ _ _)
  |(with_reducible exact ih3 _ _ _ _ _ _ _ _ _ _ _ _ _ _ _ _)
  |(with_reducible exact codesearchlaw25_held.mono _ _ _)
  |(with_reducible exact LeO.refl _)
  |(with_reducible exact LeO.none _)
  |(with_reducible refine LeO.ite ?_ ?_)
  |(with_reducible refine LeO.bind ?_ (fun _ => ?_))
  |exact ih0 _ _ _ _ _ _ _ _
  |exact ih1 _ _ _ _ _ _ _ _ _
  |exact ih2 _ _ _ _ _ _ _ _ _ _ _ _ _ _ _
  |exact ih3 _ _ _ _ _ _ _ _ _ _ _ _ _ _ _ _
  |exact codesearchlaw25_held.mono _ _ _
  |exact LeO.none _
  |refine LeO.ite ?_ ?_
  |refine LeO.bind ?_ (fun _ => ?_)
theorem codesearchlaw25_TreeMergesT.mono : ∀ a0 a1 a2 a3 a4 a5 k, LeO (codesearchlaw25_TreeMergesT.f k a0 a1 a2 a3 a4 a5) (codesearchlaw25_TreeMergesT.f (k + 1) a0 a1 a2 a3 a4 a5) := by
 intro a0 a1 a2 a3 a4 a5 k
 obtain ⟨ih0,ih1,ih2,ih3⟩ := codesearchlaw25_TreeMergesT.mono_l k
 unfold codesearchlaw25_TreeMergesT.f
 repeat' first
  |(with_reducible exact ih0 _ _ _ _ _ _ _ _)
  |(with_reducible exact ih1 _ _ _ _ _ _ _ _ _)
  |(with_reducible exact ih2 _ _ _ _ _ _ _ _ _ _ _ _ _ _ _)
  |(with_reducible exact ih3 _ _ _ _ _ _ _ _ _ _ _ _ _ _ _ _)
  |(with_reducible exact codesearchlaw25_held.mono _ _ _)
  |(with_reducible exact LeO.refl _)
  |(with_reducible exact LeO.none _)
  |(with_reducible refine LeO.ite ?_ ?_)
  |(with_reducible refine LeO.bind ?_ (fun _ => ?_))
  |exact ih0 _ _ _ _ _ _ _ _
  |exact ih1 _ _ _ _ _ _ _ _ _
  |exact ih2 _ _ _ _ _ _ _ _ _ _ _ _ _ _ _
  |exact ih3 _ _ _ _ _ _ _ _ _ _ _ _ _ _ _ _
  |exact codesearchlaw25_held.mono _ _ _
  |exact LeO.none _
  |refine LeO.ite ?_ ?_
  |refine LeO.bind ?_ (fun _ => ?_)
/-! ### codesearchlaw25_TreeMerges: function 8 -/
def codesearchlaw25_TreeMerges.j0 : Nat → List (S45) → List (S45) → List (S45) → Bool → Option (Bool)
|0,_,_,_,_ => none
|k + 1,x0,x1,x2,x42 => if x42 = true then (some true) else ((tree_Merge.f x0 x1 x2).bind fun b3 => ((tree_Merge.f x0 x2 x1).bind fun b4 => ((codesearchref01_Strings.f k b3.2 b4.2).bind fun t265 => (if t265 = true then (codesearchlaw25_TreeMergesT.f k x0 x1 x2 b3.1 b4.1 b3.2) else (some false)))))
def codesearchlaw25_TreeMerges.f (k : Nat) (l0 : List (S45)) (l1 : List (S45)) (l2 : List (S45)) : Option (Bool) := (codesearchlaw25_alive.f k).bind fun t251 => (if t251 = true then (if (l0.length : Int) > 60 then (codesearchlaw25_TreeMerges.j0 k l0 l1 l2 true) else (if (l1.length : Int) > 60 then (codesearchlaw25_TreeMerges.j0 k l0 l1 l2 true) else (if (l2.length : Int) > 60 then (codesearchlaw25_TreeMerges.j0 k l0 l1 l2 true) else ((codesearchlaw25_trees.f k l0 l1 l2).bind fun t252 => (codesearchlaw25_TreeMerges.j0 k l0 l1 l2 (!t252)))))) else (some false))
theorem codesearchlaw25_TreeMerges.mono_l : ∀ k, (∀ y0 y1 y2 y3, LeO (codesearchlaw25_TreeMerges.j0 k y0 y1 y2 y3) (codesearchlaw25_TreeMerges.j0 (k + 1) y0 y1 y2 y3))
|0 => fun _ _ _ _ r h => by simp [codesearchlaw25_TreeMerges.j0] at h
|k + 1 => by
  have ih0 := codesearchlaw25_TreeMerges.mono_l k
  ·intro y0 y1 y2 y3
   unfold codesearchlaw25_TreeMerges.j0
   repeat' first
  |(with_reducible exact ih0 _ _ _ _)
  |(with_reducible exact codesearchlaw25_alive.mono _)
  |(with_reducible exact codesearchlaw25_trees.mono _ _ _ _)
  |(with_reducible exact codesearchref01_Strings.mono _ _ _)
  |(with_reducible exact codesearchlaw25_TreeMergesT.mono _ _ _ _ _ _ _)
  |(with_reducible exact LeO.refl _)
  |(with_reducible exact LeO.none _)
  |(with_reducible refine LeO.ite ?_ ?_)
  |(with_reducible refine LeO.bind ?_ (fun _ => ?_))
  |exact ih0 _ _ _ _
  |exact codesearchlaw25_alive.mono _
  |exact codesearchlaw25_trees.mono _ _ _ _
  |exact codesearchref01_Strings.mono _ _ _
  |exact codesearchlaw25_TreeMergesT.mono _ _ _ _ _ _ _
  |exact LeO.none _
  |refine LeO.ite ?_ ?_
  |refine LeO.bind ?_ (fun _ => ?_)
theorem codesearchlaw25_TreeMerges.mono : ∀ a0 a1 a2 k, LeO (codesearchlaw25_TreeMerges.f k a0 a1 a2) (codesearchlaw25_TreeMerges.f (k + 1) a0 a1 a2) := by
 intro a0 a1 a2 k
 have ih0 := codesearchlaw25_TreeMerges.mono_l k
 unfold codesearchlaw25_TreeMerges.f
 repeat' first
  |(with_reducible exact ih0 _ _ _ _)
  |(with_reducible exact codesearchlaw25_alive.mono _)
  |(with_reducible exact codesearchlaw25_trees.mono _ _ _ _)
  |(with_reducible exact codesearchref01_Strings.mono _ _ _)
  |(with_reducible exact codesearchlaw25_TreeMergesT.mono _ _ _ _ _ _ _)
  |(with_reducible exact LeO.refl _)
  |(with_reducible exact LeO.none _)
  |(with_reducible refine LeO.ite ?_ ?_)
  |(with_reducible refine LeO.bind ?_ (fun _ => ?_))
  |exact ih0 _ _ _ _
  |exact codesearchlaw25_alive.mono _
  |exact codesearchlaw25_trees.mono _ _ _ _
  |exact codesearchref01_Strings.mono _ _ _
  |exact codesearchlaw25_TreeMergesT.mono _ _ _ _ _ _ _
  |exact LeO.none _
  |refine LeO.ite ?_ ?_
  |refine LeO.bind ?_ (fun _ => ?_)
set_option maxHeartbeats 4000000 in
set_option maxRecDepth 100000 in
theorem codesearchlaw25_TreeMerges.calls (k : Nat) (A0 : Option Addr) (c0 : Nat) (l0 : List (S45)) (A1 : Option Addr) (c1 : Nat) (l1 : List (S45)) (A2 : Option Addr) (c2 : Nat) (l2 : List (S45)) (r : Bool) (w : World) (hr0 : Kd.C k45 w A0 l0.length l0) (hc0 : l0.length ≤ c0) (hr1 : Kd.C k45 w A1 l1.length l1) (hc1 : l1.length ≤ c1) (hr2 : Kd.C k45 w A2 l2.length l2) (hc2 : l2.length ≤ c2) (h : codesearchlaw25_TreeMerges.f k l0 l1 l2 = some r) :
  Calls Tryd.prog 8 #[.slice A0 l0.length c0,.slice A1 l1.length c1,.slice A2 l2.length c2] w fun e w' => e = .returned (.bool r) ∧ Below w.heap.size w w' := by
 have HR0 := Aside0.mk hr0
 have HC0 := Aside0.mk hc0
 clear hr0 hc0
 have HR1 := Aside0.mk hr1
 have HC1 := Aside0.mk hc1
 clear hr1 hc1
 have HR2 := Aside0.mk hr2
 have HC2 := Aside0.mk hc2
 clear hr2 hc2
 have HB := Aside0.mk (Below.refl w.heap.size w)
 have H : ((codesearchlaw25_alive.f k).bind fun t251 => (if t251 = true then (if (l0.length : Int) > 60 then (codesearchlaw25_TreeMerges.j0 k l0 l1 l2 true) else (if (l1.length : Int) > 60 then (codesearchlaw25_TreeMerges.j0 k l0 l1 l2 true) else (if (l2.length : Int) > 60 then (codesearchlaw25_TreeMerges.j0 k l0 l1 l2 true) else ((codesearchlaw25_trees.f k l0 l1 l2).bind fun t252 => (codesearchlaw25_TreeMerges.j0 k l0 l1 l2 (!t252)))))) else (some false))) = some r := h
 clear h
 replace H := Option.bind_eq_some_iff.mp H
 obtain ⟨t251,A40,H⟩ := H
 replace H : (if t251 = true then (if (l0.length : Int) > 60 then (codesearchlaw25_TreeMerges.j0 k l0 l1 l2 true) else (if (l1.length : Int) > 60 then (codesearchlaw25_TreeMerges.j0 k l0 l1 l2 true) else (if (l2.length : Int) > 60 then (codesearchlaw25_TreeMerges.j0 k l0 l1 l2 true) else ((codesearchlaw25_trees.f k l0 l1 l2).bind fun t252 => (codesearchlaw25_TreeMerges.j0 k l0 l1 l2 (!t252)))))) else (some false)) = some r := H
 have A4 := Aside0.mk A40
 clear A40
 by_cases c5 : t251 = true
 ·subst c5
  have H1 : (if (l0.length : Int) > 60 then (codesearchlaw25_TreeMerges.j0 k l0 l1 l2 true) else (if (l1.length : Int) > 60 then (codesearchlaw25_TreeMerges.j0 k l0 l1 l2 true) else (if (l2.length : Int) > 60 then (codesearchlaw25_TreeMerges.j0 k l0 l1 l2 true) else ((codesearchlaw25_trees.f k l0 l1 l2).bind fun t252 => (codesearchlaw25_TreeMerges.j0 k l0 l1 l2 (!t252)))))) = some r := by rw [if_pos rfl] at H;exact H
  clear H
  have H := H1
  clear H1
  have HC6 := Aside0.mk H
  clear H
  go_enter Tryd.func8,Tryd.ntmps8
  go_upto_region 3 with (first|((with_reducible refine gate_callee (f := 11) rfl ?_);refine goesL_ (some 21) rfl rfl Tryd.func11 (by kernel_rfl) rfl #[] rfl (by (try simp only [List.map_toArray,List.map_cons,List.map_nil]);first|done|rfl|(simp only [List.length_drop,List.length_take];rfl)) ?_;(with_reducible refine (codesearchlaw25_alive.calls k  true _ A4.out).mono ?_);rintro e w7 ⟨rfl,hb⟩;refine ⟨_,rfl,?_⟩;have n0_ := Aside0.mk (below_step (bM HB.out) hb);clear HB;have HB := n0_;clear n0_;(try clear hb);(try clear hb2);(try clear hk);(try clear hi)))
  (try simp only [Act.put,List.setIfInBounds_toArray,List.set_cons_zero,List.set_cons_succ])
  go_cut [42] (fun v42 wc => ∃ (kq : Nat) (x42_5 : Bool),v42 = .bool x42_5 ∧ Aside0 (codesearchlaw25_TreeMerges.j0 kq l0 l1 l2 x42_5 = some r) ∧ Aside0 (kq ≤ k) ∧ Aside0 (Below w.heap.size w wc))
  case first =>
   have H := HC6.out
   clear HC6
   by_cases c8 : (l0.length : Int) > 60
   ·rw [if_pos c8] at H
    have c8b0 : decide (60 < (l0.length : Int)) = true := decide_eq_true c8
    have c8b1 : decide (60 < l0.length) = true := decide_eq_true (by omega)
    clear c8
    (first|rw [c8b0]|(simp only [i64_w,i32_w];rw [c8b0])|rw [c8b1]|skip)
    have H' := Aside0.mk H
    clear H
    go_wp2
    go_meet
    case rel => exact ⟨_,(true),(by first|rfl|(simp;done)|(simp [*];done)),H',⟨by first|omega|exact Nat.le_refl _⟩,⟨bM HB.out⟩⟩
   ·rw [if_neg c8] at H
    have c8b0 : decide (60 < (l0.length : Int)) = false := decide_eq_false c8
    have c8b1 : decide (60 < l0.length) = false := decide_eq_false (by omega)
    clear c8
    (first|rw [c8b0]|(simp only [i64_w,i32_w];rw [c8b0])|rw [c8b1]|skip)
    by_cases c9 : (l1.length : Int) > 60
    ·rw [if_pos c9] at H
     have c9b0 : decide (60 < (l1.length : Int)) = true := decide_eq_true c9
     have c9b1 : decide (60 < l1.length) = true := decide_eq_true (by omega)
     clear c9
     have H' := Aside0.mk H
     clear H
     go_wp2
     go_meet
     case rel => exact ⟨_,(true),(by first|rfl|(simp;done)|(simp [*];done)),H',⟨by first|omega|exact Nat.le_refl _⟩,⟨bM HB.out⟩⟩
    ·rw [if_neg c9] at H
     have c9b0 : decide (60 < (l1.length : Int)) = false := decide_eq_false c9
     have c9b1 : decide (60 < l1.length) = false := decide_eq_false (by omega)
     clear c9
     by_cases c10 : (l2.length : Int) > 60
     ·rw [if_pos c10] at H
      have c10b0 : decide (60 < (l2.length : Int)) = true := decide_eq_true c10
      have c10b1 : decide (60 < l2.length) = true := decide_eq_true (by omega)
      clear c10
      have H' := Aside0.mk H
      clear H
      go_wp2
      go_meet
      case rel => exact ⟨_,(true),(by first|rfl|(simp;done)|(simp [*];done)),H',⟨by first|omega|exact Nat.le_refl _⟩,⟨bM HB.out⟩⟩
     ·rw [if_neg c10] at H
      have c10b0 : decide (60 < (l2.length : Int)) = false := decide_eq_false c10
      have c10b1 : decide (60 < l2.length) = false := decide_eq_false (by omega)
      clear c10
      replace H := Option.bind_eq_some_iff.mp H
      obtain ⟨t252,A110,H⟩ := H
      replace H : (codesearchlaw25_TreeMerges.j0 k l0 l1 l2 (!t252)) = some r := H
      have A11 := Aside0.mk A110
      clear A110
      have H' := Aside0.mk H
      clear H
      go_wp2_with (first|(go_at_call 19;(with_reducible refine (codesearchlaw25_trees.calls k _ _ l0 _ _ l1 _ _ l2 t252 _ ?side1 ?side2 ?side3 ?side4 ?side5 ?side6 A11.out).mono ?_);(case side1 => exact cM (Kd.C_below HR0.out HB.out));(case side2 => exact HC0.out);(case side3 => exact cM (Kd.C_below HR1.out HB.out));(case side4 => exact HC1.out);(case side5 => exact cM (Kd.C_below HR2.out HB.out));(case side6 => exact HC2.out);rintro e w' ⟨rfl,⟨nd,rfl⟩⟩))
      go_meet
      case rel => exact ⟨_,(!t252),(by first|rfl|(simp;done)|(simp [*];done)),H',⟨by first|omega|exact Nat.le_refl _⟩,⟨bM HB.out⟩⟩
  case rest =>
   clear HC6
   try clear c1
   try clear c2
   try clear p2
   try clear c5
   try clear c8
   try clear c8b0
   try clear c8b1
   try clear c9
   try clear c9b0
   try clear c9b1
   try clear c10
   try clear c10b0
   try clear c10b1
   try clear c11
   obtain ⟨kq,x42_5,rfl,HA,HJ5,HB⟩ := hcut
   cases kq with
  |zero => exact absurd HA.out (by simp [codesearchlaw25_TreeMerges.j0])
  |succ kj5 =>
    have H := HA.out
    clear HA
    simp only [codesearchlaw25_TreeMerges.j0] at H
    by_cases c12 : x42_5 = true
    ·subst c12
     have H1 : (some true) = some r := by rw [if_pos rfl] at H;exact H
     clear H
     have H := H1
     clear H1
     obtain rfl := Option.some.inj H
     go_wp2
     go_ret
     exact ⟨by first|rfl|(simp [errW_none,errW_some] <;> rfl)|(simp [*,errW_none,errW_some] <;> rfl),bM HB.out⟩
    ·replace c12 := Bool.eq_false_iff.mpr c12
     subst c12
     have H1 : ((tree_Merge.f l0 l1 l2).bind fun b3 => ((tree_Merge.f l0 l2 l1).bind fun b4 => ((codesearchref01_Strings.f kj5 b3.2 b4.2).bind fun t265 => (if t265 = true then (codesearchlaw25_TreeMergesT.f kj5 l0 l1 l2 b3.1 b4.1 b3.2) else (some false))))) = some r := by rw [if_neg (show ¬ (false = true) by decide)] at H;exact H
     clear H
     have H := H1
     clear H1
     replace H := Option.bind_eq_some_iff.mp H
     obtain ⟨⟨l3,l5⟩,A130,H⟩ := H
     replace H : ((tree_Merge.f l0 l2 l1).bind fun b4 => ((codesearchref01_Strings.f kj5 l5 b4.2).bind fun t265 => (if t265 = true then (codesearchlaw25_TreeMergesT.f kj5 l0 l1 l2 l3 b4.1 l5) else (some false)))) = some r := H
     have A13 := Aside0.mk A130
     clear A130
     replace H := Option.bind_eq_some_iff.mp H
     obtain ⟨⟨l4,t260⟩,A140,H⟩ := H
     replace H : ((codesearchref01_Strings.f kj5 l5 t260).bind fun t265 => (if t265 = true then (codesearchlaw25_TreeMergesT.f kj5 l0 l1 l2 l3 l4 l5) else (some false))) = some r := H
     have A14 := Aside0.mk A140
     clear A140
     replace H := Option.bind_eq_some_iff.mp H
     obtain ⟨t265,A150,H⟩ := H
     replace H : (if t265 = true then (codesearchlaw25_TreeMergesT.f kj5 l0 l1 l2 l3 l4 l5) else (some false)) = some r := H
     have A15 := Aside0.mk A150
     clear A150
     by_cases c16 : t265 = true
     ·subst c16
      have H1 : (codesearchlaw25_TreeMergesT.f kj5 l0 l1 l2 l3 l4 l5) = some r := by rw [if_pos rfl] at H;exact H
      clear H
      have H := H1
      clear H1
      have h := Aside0.mk H
      clear H
      go_upto_region 9 with (first|((with_reducible refine gate_callee (f := 28) rfl ?_);refine goesL_ (some 47) rfl rfl Tryd.func28 (by kernel_rfl) rfl #[.slice A0 l0.length c0,.slice A1 l1.length c1,.slice A2 l2.length c2] rfl (by (try simp only [List.map_toArray,List.map_cons,List.map_nil]);first|done|rfl|(simp only [List.length_drop,List.length_take];rfl)) ?_;(with_reducible refine (tree_Merge.calls _ _ l0 _ _ l1 _ _ l2 l3 l5 _ ?side1 ?side2 ?side3 ?side4 ?side5 ?side6 A13.out).mono ?_);(case side1 => exact cM (Kd.C_below HR0.out HB.out));(case side2 => exact HC0.out);(case side3 => exact cM (Kd.C_below HR1.out HB.out));(case side4 => exact HC1.out);(case side5 => exact cM (Kd.C_below HR2.out HB.out));(case side6 => exact HC2.out);rintro e w17 ⟨v255,v257,rfl,ho0,ho1,hb⟩;refine ⟨_,rfl,?_⟩;have n0_ := Aside0.mk (Kd.R_lower ho0 (below_size (bM HB.out)));have n1_ := Aside0.mk (Kd.R_lower ho1 (below_size (bM HB.out)));have n2_ := Aside0.mk (below_step (bM HB.out) hb);clear HB;have HO256 := n0_;have HO258 := n1_;have HB := n2_;clear n0_ n1_ n2_;(try clear hb);(try clear hb2);(try clear hk);(try clear hi);(try clear ho0);(try clear ho1))|((with_reducible refine gate_callee (f := 28) rfl ?_);refine goesL_ (some 54) rfl rfl Tryd.func28 (by kernel_rfl) rfl #[.slice A0 l0.length c0,.slice A2 l2.length c2,.slice A1 l1.length c1] rfl (by (try simp only [List.map_toArray,List.map_cons,List.map_nil]);first|done|rfl|(simp only [List.length_drop,List.length_take];rfl)) ?_;(with_reducible refine (tree_Merge.calls _ _ l0 _ _ l2 _ _ l1 l4 t260 _ ?side1 ?side2 ?side3 ?side4 ?side5 ?side6 A14.out).mono ?_);(case side1 => exact cM (Kd.C_below HR0.out HB.out));(case side2 => exact HC0.out);(case side3 => exact cM (Kd.C_below HR2.out HB.out));(case side4 => exact HC2.out);(case side5 => exact cM (Kd.C_below HR1.out HB.out));(case side6 => exact HC1.out);rintro e w18 ⟨v261,v263,rfl,ho0,ho1,hb⟩;refine ⟨_,rfl,?_⟩;have n0_ := Aside0.mk (Kd.R_elder' (rM HO256.out) (Kd.R_base ho0) hb);have n1_ := Aside0.mk (Kd.R_elder' (rM HO258.out) (Kd.R_base ho1) hb);have n2_ := Aside0.mk (Kd.R_lower (Kd.R_new' ho0 (Kd.R_lt (rM HO256.out))) (below_size (bM HB.out)));have n3_ := Aside0.mk (Kd.R_lower (Kd.R_new' ho1 (Kd.R_lt (rM HO258.out))) (below_size (bM HB.out)));have n4_ := Aside0.mk (below_step (bM HB.out) hb);clear HO256;clear HO258;clear HB;have HO256 := n0_;have HO258 := n1_;have HO262 := n2_;have HO264 := n3_;have HB := n4_;clear n0_ n1_ n2_ n3_ n4_;(try clear hb);(try clear hb2);(try clear hk);(try clear hi);(try clear ho0);(try clear ho1);obtain ⟨A5,cc5,eo19⟩ := Kd.R_slice HO258.out;subst eo19;obtain ⟨Ao20,co20,eo20⟩ := Kd.R_slice HO264.out;subst eo20)|((with_reducible refine gate_callee (f := 25) rfl ?_);refine goesL_ (some 59) rfl rfl Tryd.func25 (by kernel_rfl) rfl #[.slice A5 l5.length cc5,.slice Ao20 t260.length co20] rfl (by (try simp only [List.map_toArray,List.map_cons,List.map_nil]);first|done|rfl|(simp only [List.length_drop,List.length_take];rfl)) ?_;(with_reducible refine (codesearchref01_Strings.calls kj5 _ _ l5 _ _ t260 true _ ?side1 ?side2 ?side3 ?side4 A15.out).mono ?_);(case side1 => exact cM (Kd.R_reads' HO258.out).2.2);(case side2 => exact (Kd.R_reads' HO258.out).2.1);(case side3 => exact cM (Kd.R_reads' HO264.out).2.2);(case side4 => exact (Kd.R_reads' HO264.out).2.1);rintro e w' ⟨rfl,⟨nd,rfl⟩⟩;refine ⟨_,rfl,?_⟩))
      (try simp only [Act.put,List.setIfInBounds_toArray,List.set_cons_zero,List.set_cons_succ])
      obtain ⟨A3,cc3,e3_⟩ := Kd.R_slice HO256.out
      subst e3_
      obtain ⟨A4,cc4,e4_⟩ := Kd.R_slice HO262.out
      subst e4_
      have h45_ : Kd.Heap k45 := Kd.heap_iso _ (Kd.heap_pair Kd.heap_string (Kd.heap_int .i64))
      obtain ⟨wT,hWT⟩ : ∃ wT,wT = w18.drewN nd := ⟨_,rfl⟩
      have HBw := Aside0.mk (show Below w.heap.size w wT from by rw [hWT]; exact bM HB.out)
      have hs0 : Kd.V k45 45 wT wT.heap.size (fun _ => True) (.slice A0 l0.length c0) l0 := Kd.V_mono (Kd.V_mk HC0.out (Kd.C_F h45_ (Kd.C_below HR0.out HBw.out))) (fun _ _ => trivial)
      have hs1 : Kd.V k45 45 wT wT.heap.size (fun _ => True) (.slice A1 l1.length c1) l1 := Kd.V_mono (Kd.V_mk HC1.out (Kd.C_F h45_ (Kd.C_below HR1.out HBw.out))) (fun _ _ => trivial)
      have hs2 : Kd.V k45 45 wT wT.heap.size (fun _ => True) (.slice A2 l2.length c2) l2 := Kd.V_mono (Kd.V_mk HC2.out (Kd.C_F h45_ (Kd.C_below HR2.out HBw.out))) (fun _ _ => trivial)
      have hs3 : Kd.V k45 45 wT wT.heap.size (fun _ => True) (.slice A3 l3.length cc3) l3 := by rw [hWT]; exact Kd.V_mono (Kd.V_drewN (Kd.R_V HO256.out) nd) (fun _ _ => trivial)
      have hs4 : Kd.V k45 45 wT wT.heap.size (fun _ => True) (.slice A4 l4.length cc4) l4 := by rw [hWT]; exact Kd.V_mono (Kd.V_drewN (Kd.R_V HO262.out) nd) (fun _ _ => trivial)
      have hr5 : Kd.C Kd.string wT A5 l5.length l5 := by rw [hWT]; exact cM (Kd.R_reads' HO258.out).2.2
      have hc5 : l5.length ≤ cc5 := (Kd.R_reads' HO258.out).2.1
      rw [← hWT]
      clear hWT HB HO256 HO258 HO262 HO264
      have h := h.out
      obtain ⟨P0_,hP0_⟩ : ∃ P_ : Nat → Prop,P_ = fun _ => True := ⟨_,rfl⟩
      obtain ⟨P1_,hP1_⟩ : ∃ P_ : Nat → Prop,P_ = fun _ => True := ⟨_,rfl⟩
      obtain ⟨P2_,hP2_⟩ : ∃ P_ : Nat → Prop,P_ = fun _ => True := ⟨_,rfl⟩
      obtain ⟨P3_,hP3_⟩ : ∃ P_ : Nat → Prop,P_ = fun _ => True := ⟨_,rfl⟩
      obtain ⟨P4_,hP4_⟩ : ∃ P_ : Nat → Prop,P_ = fun _ => True := ⟨_,rfl⟩
      replace hs0 : Kd.V k45 45 wT wT.heap.size (fun k_ => P0_ k_) (.slice A0 l0.length c0) l0 := by rw [hP0_]; exact hs0
      replace hs1 : Kd.V k45 45 wT wT.heap.size (fun k_ => P1_ k_) (.slice A1 l1.length c1) l1 := by rw [hP1_]; exact hs1
      replace hs2 : Kd.V k45 45 wT wT.heap.size (fun k_ => P2_ k_) (.slice A2 l2.length c2) l2 := by rw [hP2_]; exact hs2
      replace hs3 : Kd.V k45 45 wT wT.heap.size (fun k_ => P3_ k_) (.slice A3 l3.length cc3) l3 := by rw [hP3_]; exact hs3
      replace hs4 : Kd.V k45 45 wT wT.heap.size (fun k_ => P4_ k_) (.slice A4 l4.length cc4) l4 := by rw [hP4_]; exact hs4
      clear hP0_ hP1_ hP2_ hP3_ hP4_ h45_ HR0 HR1 HR2 HC0 HC1 HC2
      have HO0 := Aside0.mk (show Kd.V k45 45 wT wT.heap.size (fun k_ => ((P0_ k_ ∨ P1_ k_ ∨ P2_ k_ ∨ P3_ k_ ∨ P4_ k_) ∨ wT.heap.size ≤ k_)) (.slice A0 l0.length c0) l0 from Kd.V_mono hs0 (fun k_ hk => .inl (.inl hk)))
      have HO1 := Aside0.mk (show Kd.V k45 45 wT wT.heap.size (fun k_ => ((P0_ k_ ∨ P1_ k_ ∨ P2_ k_ ∨ P3_ k_ ∨ P4_ k_) ∨ wT.heap.size ≤ k_)) (.slice A1 l1.length c1) l1 from Kd.V_mono hs1 (fun k_ hk => .inl (.inr (.inl hk))))
      have HO2 := Aside0.mk (show Kd.V k45 45 wT wT.heap.size (fun k_ => ((P0_ k_ ∨ P1_ k_ ∨ P2_ k_ ∨ P3_ k_ ∨ P4_ k_) ∨ wT.heap.size ≤ k_)) (.slice A2 l2.length c2) l2 from Kd.V_mono hs2 (fun k_ hk => .inl (.inr (.inr (.inl hk)))))
      have HO3 := Aside0.mk (show Kd.V k45 45 wT wT.heap.size (fun k_ => ((P0_ k_ ∨ P1_ k_ ∨ P2_ k_ ∨ P3_ k_ ∨ P4_ k_) ∨ wT.heap.size ≤ k_)) (.slice A3 l3.length cc3) l3 from Kd.V_mono hs3 (fun k_ hk => .inl (.inr (.inr (.inr (.inl hk))))))
      have HO4 := Aside0.mk (show Kd.V k45 45 wT wT.heap.size (fun k_ => ((P0_ k_ ∨ P1_ k_ ∨ P2_ k_ ∨ P3_ k_ ∨ P4_ k_) ∨ wT.heap.size ≤ k_)) (.slice A4 l4.length cc4) l4 from Kd.V_mono hs4 (fun k_ hk => .inl (.inr (.inr (.inr (.inr hk))))))
      have HR5 := Aside0.mk hr5
      have HC5 := Aside0.mk hc5
      clear hr5 hc5
      have HB := Aside0.mk (Below.refl wT.heap.size wT)
      have H : (codesearchlaw25_TreeMergesT.l0 kj5 l0 l1 l2 l3 l5 l4 (([l0,l1,l2,l3,l4] : List (List (S45)))) 0) = some r := h
      clear h
      obtain ⟨y320,hy320⟩ : ∃ y_ : List (List (S45)),y_ = (([l0,l1,l2,l3,l4] : List (List (S45)))) := ⟨_,rfl⟩
      replace H : (codesearchlaw25_TreeMergesT.l0 kj5 l0 l1 l2 l3 l5 l4 y320 0) = some r := by first|(rw [hy320];with_reducible exact H)|(have H2_ := (Option.bind_some _ _).symm.trans H;rw [hy320];with_reducible exact H2_)|(have H2_ := (Option.bind_some _ _).symm.trans H;with_reducible exact H2_)|with_reducible exact H|(rw [hy320];exact H)|exact H
      have Ny320 := Aside0.mk hy320
      clear hy320
      have H' := Aside0.mk H
      clear H
      go_wp2_with (first|((with_reducible refine gate_dst (N := 66) rfl ?_);refine Kd.N_lit (Kd.slice 45 k45) _ 22 ?hg (N' := 66) ?hd (xs := ([l0,l1,l2,l3,l4] : List (List (S45)))) (inner := [.slice A0 l0.length c0,.slice A1 l1.length c1,.slice A2 l2.length c2,.slice A3 l3.length cc3,.slice A4 l4.length cc4]) (ok := (fun k_ => ((P0_ k_ ∨ P1_ k_ ∨ P2_ k_ ∨ P3_ k_ ∨ P4_ k_) ∨ wT.heap.size ≤ k_))) (okp := (fun k_ => ((P0_ k_ ∨ P1_ k_ ∨ P2_ k_ ∨ P3_ k_ ∨ P4_ k_) ∨ wT.heap.size ≤ k_))) ?hr ?hp (fun _ hk => hk) ((show ∀ k_,wT.heap.size ≤ k_ → (fun k_ => ((P0_ k_ ∨ P1_ k_ ∨ P2_ k_ ∨ P3_ k_ ∨ P4_ k_) ∨ wT.heap.size ≤ k_)) k_ from fun k_ hk => (.inr (Nat.le_trans (below_size (bM HB.out)) hk))) _ (Nat.le_refl _)) (Below.refl _ _) (Nat.le_refl _) (by simp) ?_;(case hd => rfl);(case hg => rfl);(case hr => first|(go_simp;done)|(go_simp;rfl));(case hp => exact (Reps.one (show Kd.FK (Kd.slice 45 k45) _ _ l0 [.slice A0 l0.length c0] from (Kd.FK_slice_mk (Kd.V_reads' (Kd.V_mono (ok' := (fun k_ => ((P0_ k_ ∨ P1_ k_ ∨ P2_ k_ ∨ P3_ k_ ∨ P4_ k_) ∨ wT.heap.size ≤ k_))) (HO0.out) (fun k_ hk => hk))).2.1 (Kd.V_F (Kd.V_mono (ok' := (fun k_ => ((P0_ k_ ∨ P1_ k_ ∨ P2_ k_ ∨ P3_ k_ ∨ P4_ k_) ∨ wT.heap.size ≤ k_))) (HO0.out) (fun k_ hk => hk))))) (Reps.one (show Kd.FK (Kd.slice 45 k45) _ _ l1 [.slice A1 l1.length c1] from (Kd.FK_slice_mk (Kd.V_reads' (Kd.V_mono (ok' := (fun k_ => ((P0_ k_ ∨ P1_ k_ ∨ P2_ k_ ∨ P3_ k_ ∨ P4_ k_) ∨ wT.heap.size ≤ k_))) (HO1.out) (fun k_ hk => hk))).2.1 (Kd.V_F (Kd.V_mono (ok' := (fun k_ => ((P0_ k_ ∨ P1_ k_ ∨ P2_ k_ ∨ P3_ k_ ∨ P4_ k_) ∨ wT.heap.size ≤ k_))) (HO1.out) (fun k_ hk => hk))))) (Reps.one (show Kd.FK (Kd.slice 45 k45) _ _ l2 [.slice A2 l2.length c2] from (Kd.FK_slice_mk (Kd.V_reads' (Kd.V_mono (ok' := (fun k_ => ((P0_ k_ ∨ P1_ k_ ∨ P2_ k_ ∨ P3_ k_ ∨ P4_ k_) ∨ wT.heap.size ≤ k_))) (HO2.out) (fun k_ hk => hk))).2.1 (Kd.V_F (Kd.V_mono (ok' := (fun k_ => ((P0_ k_ ∨ P1_ k_ ∨ P2_ k_ ∨ P3_ k_ ∨ P4_ k_) ∨ wT.heap.size ≤ k_))) (HO2.out) (fun k_ hk => hk))))) (Reps.one (show Kd.FK (Kd.slice 45 k45) _ _ l3 [.slice A3 l3.length cc3] from (Kd.FK_slice_mk (Kd.V_reads' (Kd.V_mono (ok' := (fun k_ => ((P0_ k_ ∨ P1_ k_ ∨ P2_ k_ ∨ P3_ k_ ∨ P4_ k_) ∨ wT.heap.size ≤ k_))) (HO3.out) (fun k_ hk => hk))).2.1 (Kd.V_F (Kd.V_mono (ok' := (fun k_ => ((P0_ k_ ∨ P1_ k_ ∨ P2_ k_ ∨ P3_ k_ ∨ P4_ k_) ∨ wT.heap.size ≤ k_))) (HO3.out) (fun k_ hk => hk))))) (Reps.one (show Kd.FK (Kd.slice 45 k45) _ _ l4 [.slice A4 l4.length cc4] from (Kd.FK_slice_mk (Kd.V_reads' (Kd.V_mono (ok' := (fun k_ => ((P0_ k_ ∨ P1_ k_ ∨ P2_ k_ ∨ P3_ k_ ∨ P4_ k_) ∨ wT.heap.size ≤ k_))) (HO4.out) (fun k_ hk => hk))).2.1 (Kd.V_F (Kd.V_mono (ok' := (fun k_ => ((P0_ k_ ∨ P1_ k_ ∨ P2_ k_ ∨ P3_ k_ ∨ P4_ k_) ∨ wT.heap.size ≤ k_))) (HO4.out) (fun k_ hk => hk))))) (Reps.none _ _)))))));intro v321 w7 ho8 hb hg_ hnew_;clear hg_ hnew_;(first|rw [← Ny320.out] at ho8|(simp only [Int.reduceToNat] at ho8;rw [← Ny320.out] at ho8));have n0_ := Aside0.mk (Kd.V_elder' (by (with_reducible repeat (first|apply Kd.V_alloc|apply Kd.V_drewN|apply Kd.V_drew));exact HO0.out) (Kd.N_base ho8) hb);have n1_ := Aside0.mk (Kd.V_elder' (by (with_reducible repeat (first|apply Kd.V_alloc|apply Kd.V_drewN|apply Kd.V_drew));exact HO1.out) (Kd.N_base ho8) hb);have n2_ := Aside0.mk (Kd.V_elder' (by (with_reducible repeat (first|apply Kd.V_alloc|apply Kd.V_drewN|apply Kd.V_drew));exact HO2.out) (Kd.N_base ho8) hb);have n3_ := Aside0.mk (Kd.V_elder' (by (with_reducible repeat (first|apply Kd.V_alloc|apply Kd.V_drewN|apply Kd.V_drew));exact HO3.out) (Kd.N_base ho8) hb);have n4_ := Aside0.mk (Kd.V_elder' (by (with_reducible repeat (first|apply Kd.V_alloc|apply Kd.V_drewN|apply Kd.V_drew));exact HO4.out) (Kd.N_base ho8) hb);have n5_ := Aside0.mk (Kd.N_lower ho8 (below_size (bM HB.out)));have n6_ := Aside0.mk (below_step (bM HB.out) hb);clear HO0;clear HO1;clear HO2;clear HO3;clear HO4;clear HB;have HO0 := n0_;have HO1 := n1_;have HO2 := n2_;have HO3 := n3_;have HO4 := n4_;have HO322 := n5_;have HB := n6_;clear n0_ n1_ n2_ n3_ n4_ n5_ n6_;clear hb ho8))
      go_loopg [12] kj5 (fun kq v12 w' => ∃ (x12_1 : Int),v12 = .int .i64 x12_1 ∧ Aside0 (codesearchlaw25_TreeMergesT.l0 kq l0 l1 l2 l3 l5 l4 y320 x12_1 = some r) ∧ Aside0 (kq ≤ kj5) ∧ Aside0 (Kd.V k45 45 w' wT.heap.size (fun k_ => ((P0_ k_ ∨ P1_ k_ ∨ P2_ k_ ∨ P3_ k_ ∨ P4_ k_) ∨ wT.heap.size ≤ k_) ∧ some k_ ≠ (v321 : Value).ownBlock) (.slice A0 l0.length c0) l0) ∧ Aside0 (Kd.V k45 45 w' wT.heap.size (fun k_ => ((P0_ k_ ∨ P1_ k_ ∨ P2_ k_ ∨ P3_ k_ ∨ P4_ k_) ∨ wT.heap.size ≤ k_) ∧ some k_ ≠ (v321 : Value).ownBlock) (.slice A1 l1.length c1) l1) ∧ Aside0 (Kd.V k45 45 w' wT.heap.size (fun k_ => ((P0_ k_ ∨ P1_ k_ ∨ P2_ k_ ∨ P3_ k_ ∨ P4_ k_) ∨ wT.heap.size ≤ k_) ∧ some k_ ≠ (v321 : Value).ownBlock) (.slice A2 l2.length c2) l2) ∧ Aside0 (Kd.V k45 45 w' wT.heap.size (fun k_ => ((P0_ k_ ∨ P1_ k_ ∨ P2_ k_ ∨ P3_ k_ ∨ P4_ k_) ∨ wT.heap.size ≤ k_) ∧ some k_ ≠ (v321 : Value).ownBlock) (.slice A3 l3.length cc3) l3) ∧ Aside0 (Kd.V k45 45 w' wT.heap.size (fun k_ => ((P0_ k_ ∨ P1_ k_ ∨ P2_ k_ ∨ P3_ k_ ∨ P4_ k_) ∨ wT.heap.size ≤ k_) ∧ some k_ ≠ (v321 : Value).ownBlock) (.slice A4 l4.length cc4) l4) ∧ Aside0 (Kd.N (Kd.slice 45 k45) 22 w' wT.heap.size (fun k_ => ((P0_ k_ ∨ P1_ k_ ∨ P2_ k_ ∨ P3_ k_ ∨ P4_ k_) ∨ wT.heap.size ≤ k_)) v321 y320) ∧ Aside0 (Below wT.heap.size wT w'))
      case atStart => exact ⟨(0),(by first|rfl|(simp;done)|(simp [*];done)),H',⟨Nat.le_refl _⟩,⟨by (with_reducible repeat (first|apply Kd.V_alloc|apply Kd.V_drewN|apply Kd.V_drew));exact HO0.out⟩,⟨by (with_reducible repeat (first|apply Kd.V_alloc|apply Kd.V_drewN|apply Kd.V_drew));exact HO1.out⟩,⟨by (with_reducible repeat (first|apply Kd.V_alloc|apply Kd.V_drewN|apply Kd.V_drew));exact HO2.out⟩,⟨by (with_reducible repeat (first|apply Kd.V_alloc|apply Kd.V_drewN|apply Kd.V_drew));exact HO3.out⟩,⟨by (with_reducible repeat (first|apply Kd.V_alloc|apply Kd.V_drewN|apply Kd.V_drew));exact HO4.out⟩,⟨by (with_reducible repeat (first|apply Kd.N_alloc|apply Kd.N_drewN|apply Kd.N_drew));exact HO322.out⟩,⟨bM HB.out⟩⟩
      case round =>
       clear H'
       try clear c1
       try clear c2
       try clear p2
       try clear cc3
       try clear cc4
       try clear cc5
       try clear c8
       obtain ⟨x12_1,rfl,HA,HK1,HO_0,HO_1,HO_2,HO_7,HO_9,HO_11,HB⟩ := hrel
       cases gk with
      |zero => exact absurd HA.out (by simp [codesearchlaw25_TreeMergesT.l0])
      |succ k1 =>
        have H := HA.out
        clear HA
        simp only [codesearchlaw25_TreeMergesT.l0] at H
        by_cases c9 : x12_1 < (y320.length : Int)
        ·rw [if_pos c9] at H
         have c9b0 : decide (x12_1 < (y320.length : Int)) = true := decide_eq_true c9
         clear c9
         have H' := Aside0.mk H
         clear H
         obtain ⟨Ao10,co10,eo10⟩ := Kd.N_slice HO_11.out
         subst eo10
         go_wp2
         go_loopg [13] k1 (fun kq v13 w' => ∃ (x13_2 : Int),v13 = .int .i64 x13_2 ∧ Aside0 (codesearchlaw25_TreeMergesT.l1 kq l0 l1 l2 l3 l5 l4 y320 x12_1 x13_2 = some r) ∧ Aside0 (kq ≤ k1) ∧ Aside0 (Kd.V k45 45 w' wT.heap.size (fun k_ => ((P0_ k_ ∨ P1_ k_ ∨ P2_ k_ ∨ P3_ k_ ∨ P4_ k_) ∨ wT.heap.size ≤ k_) ∧ some k_ ≠ ((.slice Ao10 y320.length co10) : Value).ownBlock) (.slice A0 l0.length c0) l0) ∧ Aside0 (Kd.V k45 45 w' wT.heap.size (fun k_ => ((P0_ k_ ∨ P1_ k_ ∨ P2_ k_ ∨ P3_ k_ ∨ P4_ k_) ∨ wT.heap.size ≤ k_) ∧ some k_ ≠ ((.slice Ao10 y320.length co10) : Value).ownBlock) (.slice A1 l1.length c1) l1) ∧ Aside0 (Kd.V k45 45 w' wT.heap.size (fun k_ => ((P0_ k_ ∨ P1_ k_ ∨ P2_ k_ ∨ P3_ k_ ∨ P4_ k_) ∨ wT.heap.size ≤ k_) ∧ some k_ ≠ ((.slice Ao10 y320.length co10) : Value).ownBlock) (.slice A2 l2.length c2) l2) ∧ Aside0 (Kd.V k45 45 w' wT.heap.size (fun k_ => ((P0_ k_ ∨ P1_ k_ ∨ P2_ k_ ∨ P3_ k_ ∨ P4_ k_) ∨ wT.heap.size ≤ k_) ∧ some k_ ≠ ((.slice Ao10 y320.length co10) : Value).ownBlock) (.slice A3 l3.length cc3) l3) ∧ Aside0 (Kd.V k45 45 w' wT.heap.size (fun k_ => ((P0_ k_ ∨ P1_ k_ ∨ P2_ k_ ∨ P3_ k_ ∨ P4_ k_) ∨ wT.heap.size ≤ k_) ∧ some k_ ≠ ((.slice Ao10 y320.length co10) : Value).ownBlock) (.slice A4 l4.length cc4) l4) ∧ Aside0 (Kd.N (Kd.slice 45 k45) 22 w' wT.heap.size (fun k_ => ((P0_ k_ ∨ P1_ k_ ∨ P2_ k_ ∨ P3_ k_ ∨ P4_ k_) ∨ wT.heap.size ≤ k_)) (.slice Ao10 y320.length co10) y320) ∧ Aside0 (Below wT.heap.size wT w'))
         case atStart => exact ⟨(0),(by first|rfl|(simp;done)|(simp [*];done)),H',⟨Nat.le_refl _⟩,⟨by (with_reducible repeat (first|apply Kd.V_alloc|apply Kd.V_drewN|apply Kd.V_drew));exact HO_0.out⟩,⟨by (with_reducible repeat (first|apply Kd.V_alloc|apply Kd.V_drewN|apply Kd.V_drew));exact HO_1.out⟩,⟨by (with_reducible repeat (first|apply Kd.V_alloc|apply Kd.V_drewN|apply Kd.V_drew));exact HO_2.out⟩,⟨by (with_reducible repeat (first|apply Kd.V_alloc|apply Kd.V_drewN|apply Kd.V_drew));exact HO_7.out⟩,⟨by (with_reducible repeat (first|apply Kd.V_alloc|apply Kd.V_drewN|apply Kd.V_drew));exact HO_9.out⟩,⟨by (with_reducible repeat (first|apply Kd.N_alloc|apply Kd.N_drewN|apply Kd.N_drew));exact HO_11.out⟩,⟨bM HB.out⟩⟩
         case round =>
          clear H'
          try clear c1
          try clear c2
          try clear p2
          try clear cc3
          try clear cc4
          try clear cc5
          try clear c8
          try clear c9
          try clear c9b0
          try clear p2
          obtain ⟨x13_2,rfl,HA,HK2,HO_0,HO_1,HO_2,HO_7,HO_9,HO_11,HB⟩ := hrel
          cases gk with
         |zero => exact absurd HA.out (by simp [codesearchlaw25_TreeMergesT.l1])
         |succ k2 =>
           have H := HA.out
           clear HA
           simp only [codesearchlaw25_TreeMergesT.l1] at H
           by_cases c11 : 0 ≤ x12_1
           ·rw [if_pos c11] at H
            have c11b0 : decide (0 ≤ x12_1) = true := decide_eq_true c11
            clear c11
            by_cases c12 : x12_1 < (y320.length : Int)
            ·rw [if_pos c12] at H
             have c12b0 : decide (x12_1 < (y320.length : Int)) = true := decide_eq_true c12
             clear c12
             by_cases c13 : x13_2 < ((rd_L4 y320 x12_1).length : Int)
             ·rw [if_pos c13] at H
              have c13b0 : decide (x13_2 < ((rd_L4 y320 x12_1).length : Int)) = true := decide_eq_true c13
              clear c13
              by_cases c14 : 0 ≤ x13_2
              ·rw [if_pos c14] at H
               have c14b0 : decide (0 ≤ x13_2) = true := decide_eq_true c14
               clear c14
               replace H := Option.bind_eq_some_iff.mp H
               obtain ⟨t326,A150,H⟩ := H
               replace H : ((codesearchlaw25_held.f k2 l1 ((rd_T45 (rd_L4 y320 x12_1) x13_2).f0)).bind fun t327 => ((codesearchlaw25_held.f k2 l2 ((rd_T45 (rd_L4 y320 x12_1) x13_2).f0)).bind fun t328 => ((codesearchlaw25_held.f k2 l3 ((rd_T45 (rd_L4 y320 x12_1) x13_2).f0)).bind fun t329 => (if t327 = t326 then (if t329 = t328 then (if t328 = t326 then (if t329 = t327 then (if t327 = t328 then (codesearchlaw25_TreeMergesT.j2 k2 l0 l1 l2 l3 l5 l4 y320 x12_1 x13_2 ((rd_T45 (rd_L4 y320 x12_1) x13_2).f0) t326 t327 t328 t329 (t329 != t327)) else (codesearchlaw25_TreeMergesT.j2 k2 l0 l1 l2 l3 l5 l4 y320 x12_1 x13_2 ((rd_T45 (rd_L4 y320 x12_1) x13_2).f0) t326 t327 t328 t329 false)) else (codesearchlaw25_TreeMergesT.j2 k2 l0 l1 l2 l3 l5 l4 y320 x12_1 x13_2 ((rd_T45 (rd_L4 y320 x12_1) x13_2).f0) t326 t327 t328 t329 true)) else (if t327 = t328 then (codesearchlaw25_TreeMergesT.j2 k2 l0 l1 l2 l3 l5 l4 y320 x12_1 x13_2 ((rd_T45 (rd_L4 y320 x12_1) x13_2).f0) t326 t327 t328 t329 (t329 != t327)) else (codesearchlaw25_TreeMergesT.j2 k2 l0 l1 l2 l3 l5 l4 y320 x12_1 x13_2 ((rd_T45 (rd_L4 y320 x12_1) x13_2).f0) t326 t327 t328 t329 false))) else (codesearchlaw25_TreeMergesT.j2 k2 l0 l1 l2 l3 l5 l4 y320 x12_1 x13_2 ((rd_T45 (rd_L4 y320 x12_1) x13_2).f0) t326 t327 t328 t329 true)) else (if t328 = t326 then (if t329 = t327 then (if t327 = t328 then (codesearchlaw25_TreeMergesT.j2 k2 l0 l1 l2 l3 l5 l4 y320 x12_1 x13_2 ((rd_T45 (rd_L4 y320 x12_1) x13_2).f0) t326 t327 t328 t329 (t329 != t327)) else (codesearchlaw25_TreeMergesT.j2 k2 l0 l1 l2 l3 l5 l4 y320 x12_1 x13_2 ((rd_T45 (rd_L4 y320 x12_1) x13_2).f0) t326 t327 t328 t329 false)) else (codesearchlaw25_TreeMergesT.j2 k2 l0 l1 l2 l3 l5 l4 y320 x12_1 x13_2 ((rd_T45 (rd_L4 y320 x12_1) x13_2).f0) t326 t327 t328 t329 true)) else (if t327 = t328 then (codesearchlaw25_TreeMergesT.j2 k2 l0 l1 l2 l3 l5 l4 y320 x12_1 x13_2 ((rd_T45 (rd_L4 y320 x12_1) x13_2).f0) t326 t327 t328 t329 (t329 != t327)) else (codesearchlaw25_TreeMergesT.j2 k2 l0 l1 l2 l3 l5 l4 y320 x12_1 x13_2 ((rd_T45 (rd_L4 y320 x12_1) x13_2).f0) t326 t327 t328 t329 false))))))) = some r := H
               have A15 := Aside0.mk A150
               clear A150
               replace H := Option.bind_eq_some_iff.mp H
               obtain ⟨t327,A160,H⟩ := H
               replace H : ((codesearchlaw25_held.f k2 l2 ((rd_T45 (rd_L4 y320 x12_1) x13_2).f0)).bind fun t328 => ((codesearchlaw25_held.f k2 l3 ((rd_T45 (rd_L4 y320 x12_1) x13_2).f0)).bind fun t329 => (if t327 = t326 then (if t329 = t328 then (if t328 = t326 then (if t329 = t327 then (if t327 = t328 then (codesearchlaw25_TreeMergesT.j2 k2 l0 l1 l2 l3 l5 l4 y320 x12_1 x13_2 ((rd_T45 (rd_L4 y320 x12_1) x13_2).f0) t326 t327 t328 t329 (t329 != t327)) else (codesearchlaw25_TreeMergesT.j2 k2 l0 l1 l2 l3 l5 l4 y320 x12_1 x13_2 ((rd_T45 (rd_L4 y320 x12_1) x13_2).f0) t326 t327 t328 t329 false)) else (codesearchlaw25_TreeMergesT.j2 k2 l0 l1 l2 l3 l5 l4 y320 x12_1 x13_2 ((rd_T45 (rd_L4 y320 x12_1) x13_2).f0) t326 t327 t328 t329 true)) else (if t327 = t328 then (codesearchlaw25_TreeMergesT.j2 k2 l0 l1 l2 l3 l5 l4 y320 x12_1 x13_2 ((rd_T45 (rd_L4 y320 x12_1) x13_2).f0) t326 t327 t328 t329 (t329 != t327)) else (codesearchlaw25_TreeMergesT.j2 k2 l0 l1 l2 l3 l5 l4 y320 x12_1 x13_2 ((rd_T45 (rd_L4 y320 x12_1) x13_2).f0) t326 t327 t328 t329 false))) else (codesearchlaw25_TreeMergesT.j2 k2 l0 l1 l2 l3 l5 l4 y320 x12_1 x13_2 ((rd_T45 (rd_L4 y320 x12_1) x13_2).f0) t326 t327 t328 t329 true)) else (if t328 = t326 then (if t329 = t327 then (if t327 = t328 then (codesearchlaw25_TreeMergesT.j2 k2 l0 l1 l2 l3 l5 l4 y320 x12_1 x13_2 ((rd_T45 (rd_L4 y320 x12_1) x13_2).f0) t326 t327 t328 t329 (t329 != t327)) else (codesearchlaw25_TreeMergesT.j2 k2 l0 l1 l2 l3 l5 l4 y320 x12_1 x13_2 ((rd_T45 (rd_L4 y320 x12_1) x13_2).f0) t326 t327 t328 t329 false)) else (codesearchlaw25_TreeMergesT.j2 k2 l0 l1 l2 l3 l5 l4 y320 x12_1 x13_2 ((rd_T45 (rd_L4 y320 x12_1) x13_2).f0) t326 t327 t328 t329 true)) else (if t327 = t328 then (codesearchlaw25_TreeMergesT.j2 k2 l0 l1 l2 l3 l5 l4 y320 x12_1 x13_2 ((rd_T45 (rd_L4 y320 x12_1) x13_2).f0) t326 t327 t328 t329 (t329 != t327)) else (codesearchlaw25_TreeMergesT.j2 k2 l0 l1 l2 l3 l5 l4 y320 x12_1 x13_2 ((rd_T45 (rd_L4 y320 x12_1) x13_2).f0) t326 t327 t328 t329 false)))))) = some r := H
               have A16 := Aside0.mk A160
               clear A160
               replace H := Option.bind_eq_some_iff.mp H
               obtain ⟨t328,A170,H⟩ := H
               replace H : ((codesearchlaw25_held.f k2 l3 ((rd_T45 (rd_L4 y320 x12_1) x13_2).f0)).bind fun t329 => (if t327 = t326 then (if t329 = t328 then (if t328 = t326 then (if t329 = t327 then (if t327 = t328 then (codesearchlaw25_TreeMergesT.j2 k2 l0 l1 l2 l3 l5 l4 y320 x12_1 x13_2 ((rd_T45 (rd_L4 y320 x12_1) x13_2).f0) t326 t327 t328 t329 (t329 != t327)) else (codesearchlaw25_TreeMergesT.j2 k2 l0 l1 l2 l3 l5 l4 y320 x12_1 x13_2 ((rd_T45 (rd_L4 y320 x12_1) x13_2).f0) t326 t327 t328 t329 false)) else (codesearchlaw25_TreeMergesT.j2 k2 l0 l1 l2 l3 l5 l4 y320 x12_1 x13_2 ((rd_T45 (rd_L4 y320 x12_1) x13_2).f0) t326 t327 t328 t329 true)) else (if t327 = t328 then (codesearchlaw25_TreeMergesT.j2 k2 l0 l1 l2 l3 l5 l4 y320 x12_1 x13_2 ((rd_T45 (rd_L4 y320 x12_1) x13_2).f0) t326 t327 t328 t329 (t329 != t327)) else (codesearchlaw25_TreeMergesT.j2 k2 l0 l1 l2 l3 l5 l4 y320 x12_1 x13_2 ((rd_T45 (rd_L4 y320 x12_1) x13_2).f0) t326 t327 t328 t329 false))) else (codesearchlaw25_TreeMergesT.j2 k2 l0 l1 l2 l3 l5 l4 y320 x12_1 x13_2 ((rd_T45 (rd_L4 y320 x12_1) x13_2).f0) t326 t327 t328 t329 true)) else (if t328 = t326 then (if t329 = t327 then (if t327 = t328 then (codesearchlaw25_TreeMergesT.j2 k2 l0 l1 l2 l3 l5 l4 y320 x12_1 x13_2 ((rd_T45 (rd_L4 y320 x12_1) x13_2).f0) t326 t327 t328 t329 (t329 != t327)) else (codesearchlaw25_TreeMergesT.j2 k2 l0 l1 l2 l3 l5 l4 y320 x12_1 x13_2 ((rd_T45 (rd_L4 y320 x12_1) x13_2).f0) t326 t327 t328 t329 false)) else (codesearchlaw25_TreeMergesT.j2 k2 l0 l1 l2 l3 l5 l4 y320 x12_1 x13_2 ((rd_T45 (rd_L4 y320 x12_1) x13_2).f0) t326 t327 t328 t329 true)) else (if t327 = t328 then (codesearchlaw25_TreeMergesT.j2 k2 l0 l1 l2 l3 l5 l4 y320 x12_1 x13_2 ((rd_T45 (rd_L4 y320 x12_1) x13_2).f0) t326 t327 t328 t329 (t329 != t327)) else (codesearchlaw25_TreeMergesT.j2 k2 l0 l1 l2 l3 l5 l4 y320 x12_1 x13_2 ((rd_T45 (rd_L4 y320 x12_1) x13_2).f0) t326 t327 t328 t329 false))))) = some r := H
               have A17 := Aside0.mk A170
               clear A170
               replace H := Option.bind_eq_some_iff.mp H
               obtain ⟨t329,A180,H⟩ := H
               replace H : (if t327 = t326 then (if t329 = t328 then (if t328 = t326 then (if t329 = t327 then (if t327 = t328 then (codesearchlaw25_TreeMergesT.j2 k2 l0 l1 l2 l3 l5 l4 y320 x12_1 x13_2 ((rd_T45 (rd_L4 y320 x12_1) x13_2).f0) t326 t327 t328 t329 (t329 != t327)) else (codesearchlaw25_TreeMergesT.j2 k2 l0 l1 l2 l3 l5 l4 y320 x12_1 x13_2 ((rd_T45 (rd_L4 y320 x12_1) x13_2).f0) t326 t327 t328 t329 false)) else (codesearchlaw25_TreeMergesT.j2 k2 l0 l1 l2 l3 l5 l4 y320 x12_1 x13_2 ((rd_T45 (rd_L4 y320 x12_1) x13_2).f0) t326 t327 t328 t329 true)) else (if t327 = t328 then (codesearchlaw25_TreeMergesT.j2 k2 l0 l1 l2 l3 l5 l4 y320 x12_1 x13_2 ((rd_T45 (rd_L4 y320 x12_1) x13_2).f0) t326 t327 t328 t329 (t329 != t327)) else (codesearchlaw25_TreeMergesT.j2 k2 l0 l1 l2 l3 l5 l4 y320 x12_1 x13_2 ((rd_T45 (rd_L4 y320 x12_1) x13_2).f0) t326 t327 t328 t329 false))) else (codesearchlaw25_TreeMergesT.j2 k2 l0 l1 l2 l3 l5 l4 y320 x12_1 x13_2 ((rd_T45 (rd_L4 y320 x12_1) x13_2).f0) t326 t327 t328 t329 true)) else (if t328 = t326 then (if t329 = t327 then (if t327 = t328 then (codesearchlaw25_TreeMergesT.j2 k2 l0 l1 l2 l3 l5 l4 y320 x12_1 x13_2 ((rd_T45 (rd_L4 y320 x12_1) x13_2).f0) t326 t327 t328 t329 (t329 != t327)) else (codesearchlaw25_TreeMergesT.j2 k2 l0 l1 l2 l3 l5 l4 y320 x12_1 x13_2 ((rd_T45 (rd_L4 y320 x12_1) x13_2).f0) t326 t327 t328 t329 false)) else (codesearchlaw25_TreeMergesT.j2 k2 l0 l1 l2 l3 l5 l4 y320 x12_1 x13_2 ((rd_T45 (rd_L4 y320 x12_1) x13_2).f0) t326 t327 t328 t329 true)) else (if t327 = t328 then (codesearchlaw25_TreeMergesT.j2 k2 l0 l1 l2 l3 l5 l4 y320 x12_1 x13_2 ((rd_T45 (rd_L4 y320 x12_1) x13_2).f0) t326 t327 t328 t329 (t329 != t327)) else (codesearchlaw25_TreeMergesT.j2 k2 l0 l1 l2 l3 l5 l4 y320 x12_1 x13_2 ((rd_T45 (rd_L4 y320 x12_1) x13_2).f0) t326 t327 t328 t329 false)))) = some r := H
               have A18 := Aside0.mk A180
               clear A180
               have HC19 := Aside0.mk H
               clear H
               have p323 : 0 ≤ (x12_1 : Int) := of_decide_eq_true (by first|(with_reducible assumption)|assumption)
               have q323 : x12_1 < (y320.length : Int) := of_decide_eq_true (by first|(with_reducible assumption)|assumption)
               obtain ⟨ad323,A323_0,c323_0,e323,hx323_0,hl323_0,hi323_0⟩ := at_L4 (Kd.N_reads' HO_11.out).2.2 x12_1 p323 q323
               cases e323
               obtain ⟨ce323,hce323,hMe323,hcc323⟩ := Kd.N_get HO_11.out [] x12_1 p323 (by first|exact q323|exact of_decide_eq_true (by first|(with_reducible assumption)|assumption)|(have e_ := (Kd.N_reads' HO_11.out).1;omega))
               obtain ⟨ua323_0,uc323_0,rfl,ul323_0,ge323_0⟩ := Kd.FK_slice_open hMe323
               have hv323_0 := hcc323 0 _ rfl
               rw [Nat.add_zero,show ((Kd.slice 45 k45)).sz = 1 from rfl,Nat.mul_one] at hv323_0
               replace hv323_0 := Option.some.inj (hv323_0.symm.trans hx323_0)
               injection hv323_0 with hva_ hvn_ hvc_
               rw [hva_] at ge323_0
               rw [hvc_] at ul323_0
               have HL323_0 := Aside0.mk (show Kd.V k45 45 _ wT.heap.size _ _ (rd_L4 y320 x12_1) from Kd.V_mk ul323_0 ge323_0)
               clear hva_ hvn_ hvc_ ge323_0 ul323_0
               clear hcc323 hce323
               have HR323_0 := Aside0.mk hi323_0
               have HC323_0 := Aside0.mk hl323_0
               clear hi323_0 hl323_0
               replace p323 := eq_true p323
               replace q323 := eq_true q323
               have p324 : 0 ≤ (x12_1 : Int) := of_decide_eq_true (by first|(with_reducible assumption)|assumption)
               have q324 : x12_1 < (y320.length : Int) := of_decide_eq_true (by first|(with_reducible assumption)|assumption)
               obtain ⟨ad324,A324_0,c324_0,e324,hx324_0,hl324_0,hi324_0⟩ := at_L4 (Kd.N_reads' HO_11.out).2.2 x12_1 p324 q324
               obtain rfl : ad323 = ad324 := (by injection e324)
               obtain ⟨ce324,hce324,hMe324,hcc324⟩ := Kd.N_get HO_11.out [] x12_1 p324 (by first|exact q324|exact of_decide_eq_true (by first|(with_reducible assumption)|assumption)|(have e_ := (Kd.N_reads' HO_11.out).1;omega))
               obtain ⟨ua324_0,uc324_0,rfl,ul324_0,ge324_0⟩ := Kd.FK_slice_open hMe324
               have hv324_0 := hcc324 0 _ rfl
               rw [Nat.add_zero,show ((Kd.slice 45 k45)).sz = 1 from rfl,Nat.mul_one] at hv324_0
               replace hv324_0 := Option.some.inj (hv324_0.symm.trans hx324_0)
               injection hv324_0 with hva_ hvn_ hvc_
               rw [hva_] at ge324_0
               rw [hvc_] at ul324_0
               have HL324_0 := Aside0.mk (show Kd.V k45 45 _ wT.heap.size _ _ (rd_L4 y320 x12_1) from Kd.V_mk ul324_0 ge324_0)
               clear hva_ hvn_ hvc_ ge324_0 ul324_0
               clear hcc324 hce324
               have HR324_0 := Aside0.mk hi324_0
               have HC324_0 := Aside0.mk hl324_0
               clear hi324_0 hl324_0
               replace p324 := eq_true p324
               replace q324 := eq_true q324
               have ea_ := Option.some.inj (hx323_0.symm.trans hx324_0)
               injection ea_ with ea_ en_ ec_
               subst ea_
               subst ec_
               clear en_
               have p325 : 0 ≤ (x13_2 : Int) := of_decide_eq_true (by first|(with_reducible assumption)|assumption)
               have q325 : x13_2 < ((rd_L4 y320 x12_1).length : Int) := of_decide_eq_true (by first|(with_reducible assumption)|assumption)
               obtain ⟨ad325,e325,hx325_0,hx325_1⟩ := at_T45 (by repeat (first|(with_reducible exact HR324_0.out)|(with_reducible refine Kd.C_alloc ?_ _)|(with_reducible refine Kd.C_drewN ?_ _)|(with_reducible refine Kd.C_drew ?_)|exact HR324_0.out)) x13_2 p325 q325
               cases e325
               replace p325 := eq_true p325
               replace q325 := eq_true q325
               go_upto_region 21 with (first|((with_reducible refine gate_callee (f := 30) rfl ?_);refine goesL_ (some 92) rfl rfl Tryd.func30 (by kernel_rfl) rfl #[.slice A0 l0.length c0,.string ((rd_T45 (rd_L4 y320 x12_1) x13_2).f0)] rfl (by (try simp only [List.map_toArray,List.map_cons,List.map_nil]);first|done|rfl|(simp only [List.length_drop,List.length_take];rfl)) ?_;(with_reducible refine (codesearchlaw25_held.calls k2 _ _ l0 ((rd_T45 (rd_L4 y320 x12_1) x13_2).f0) t326 _ ?side1 ?side2 A15.out).mono ?_);(case side1 => repeat (first|exact (Kd.V_reads' HO_0.out).2.2|(with_reducible refine Kd.C_alloc ?_ _)|(with_reducible refine Kd.C_drewN ?_ _)|(with_reducible refine Kd.C_drew ?_)));(case side2 => exact (Kd.V_reads' HO_0.out).2.1);rintro e w' ⟨rfl,⟨nd,rfl⟩⟩;refine ⟨_,rfl,?_⟩)|((with_reducible refine gate_callee (f := 30) rfl ?_);refine goesL_ (some 95) rfl rfl Tryd.func30 (by kernel_rfl) rfl #[.slice A1 l1.length c1,.string ((rd_T45 (rd_L4 y320 x12_1) x13_2).f0)] rfl (by (try simp only [List.map_toArray,List.map_cons,List.map_nil]);first|done|rfl|(simp only [List.length_drop,List.length_take];rfl)) ?_;(with_reducible refine (codesearchlaw25_held.calls k2 _ _ l1 ((rd_T45 (rd_L4 y320 x12_1) x13_2).f0) t327 _ ?side1 ?side2 A16.out).mono ?_);(case side1 => repeat (first|exact (Kd.V_reads' HO_1.out).2.2|(with_reducible refine Kd.C_alloc ?_ _)|(with_reducible refine Kd.C_drewN ?_ _)|(with_reducible refine Kd.C_drew ?_)));(case side2 => exact (Kd.V_reads' HO_1.out).2.1);rintro e w' ⟨rfl,⟨nd,rfl⟩⟩;refine ⟨_,rfl,?_⟩)|((with_reducible refine gate_callee (f := 30) rfl ?_);refine goesL_ (some 98) rfl rfl Tryd.func30 (by kernel_rfl) rfl #[.slice A2 l2.length c2,.string ((rd_T45 (rd_L4 y320 x12_1) x13_2).f0)] rfl (by (try simp only [List.map_toArray,List.map_cons,List.map_nil]);first|done|rfl|(simp only [List.length_drop,List.length_take];rfl)) ?_;(with_reducible refine (codesearchlaw25_held.calls k2 _ _ l2 ((rd_T45 (rd_L4 y320 x12_1) x13_2).f0) t328 _ ?side1 ?side2 A17.out).mono ?_);(case side1 => repeat (first|exact (Kd.V_reads' HO_2.out).2.2|(with_reducible refine Kd.C_alloc ?_ _)|(with_reducible refine Kd.C_drewN ?_ _)|(with_reducible refine Kd.C_drew ?_)));(case side2 => exact (Kd.V_reads' HO_2.out).2.1);rintro e w' ⟨rfl,⟨nd,rfl⟩⟩;refine ⟨_,rfl,?_⟩)|((with_reducible refine gate_callee (f := 30) rfl ?_);refine goesL_ (some 101) rfl rfl Tryd.func30 (by kernel_rfl) rfl #[.slice A3 l3.length cc3,.string ((rd_T45 (rd_L4 y320 x12_1) x13_2).f0)] rfl (by (try simp only [List.map_toArray,List.map_cons,List.map_nil]);first|done|rfl|(simp only [List.length_drop,List.length_take];rfl)) ?_;(with_reducible refine (codesearchlaw25_held.calls k2 _ _ l3 ((rd_T45 (rd_L4 y320 x12_1) x13_2).f0) t329 _ ?side1 ?side2 A18.out).mono ?_);(case side1 => repeat (first|exact (Kd.V_reads' HO_7.out).2.2|(with_reducible refine Kd.C_alloc ?_ _)|(with_reducible refine Kd.C_drewN ?_ _)|(with_reducible refine Kd.C_drew ?_)));(case side2 => exact (Kd.V_reads' HO_7.out).2.1);rintro e w' ⟨rfl,⟨nd,rfl⟩⟩;refine ⟨_,rfl,?_⟩))
               (try simp only [Act.put,List.setIfInBounds_toArray,List.set_cons_zero,List.set_cons_succ])
               go_cut [129] (fun v129 wc => ∃ (kq : Nat) (x129_18 : Bool),v129 = .bool x129_18 ∧ Aside0 (codesearchlaw25_TreeMergesT.j2 kq l0 l1 l2 l3 l5 l4 y320 x12_1 x13_2 ((rd_T45 (rd_L4 y320 x12_1) x13_2).f0) t326 t327 t328 t329 x129_18 = some r) ∧ Aside0 (kq ≤ k2) ∧ Aside0 (Kd.V k45 45 wc wT.heap.size (fun k_ => ((P0_ k_ ∨ P1_ k_ ∨ P2_ k_ ∨ P3_ k_ ∨ P4_ k_) ∨ wT.heap.size ≤ k_) ∧ some k_ ≠ ((.slice (some ad323) y320.length co10) : Value).ownBlock) (.slice A0 l0.length c0) l0) ∧ Aside0 (Kd.V k45 45 wc wT.heap.size (fun k_ => ((P0_ k_ ∨ P1_ k_ ∨ P2_ k_ ∨ P3_ k_ ∨ P4_ k_) ∨ wT.heap.size ≤ k_) ∧ some k_ ≠ ((.slice (some ad323) y320.length co10) : Value).ownBlock) (.slice A1 l1.length c1) l1) ∧ Aside0 (Kd.V k45 45 wc wT.heap.size (fun k_ => ((P0_ k_ ∨ P1_ k_ ∨ P2_ k_ ∨ P3_ k_ ∨ P4_ k_) ∨ wT.heap.size ≤ k_) ∧ some k_ ≠ ((.slice (some ad323) y320.length co10) : Value).ownBlock) (.slice A2 l2.length c2) l2) ∧ Aside0 (Kd.V k45 45 wc wT.heap.size (fun k_ => ((P0_ k_ ∨ P1_ k_ ∨ P2_ k_ ∨ P3_ k_ ∨ P4_ k_) ∨ wT.heap.size ≤ k_) ∧ some k_ ≠ ((.slice (some ad323) y320.length co10) : Value).ownBlock) (.slice A3 l3.length cc3) l3) ∧ Aside0 (Kd.V k45 45 wc wT.heap.size (fun k_ => ((P0_ k_ ∨ P1_ k_ ∨ P2_ k_ ∨ P3_ k_ ∨ P4_ k_) ∨ wT.heap.size ≤ k_) ∧ some k_ ≠ ((.slice (some ad323) y320.length co10) : Value).ownBlock) (.slice A4 l4.length cc4) l4) ∧ Aside0 (Kd.N (Kd.slice 45 k45) 22 wc wT.heap.size (fun k_ => ((P0_ k_ ∨ P1_ k_ ∨ P2_ k_ ∨ P3_ k_ ∨ P4_ k_) ∨ wT.heap.size ≤ k_)) (.slice (some ad323) y320.length co10) y320) ∧ Aside0 (Kd.C k45 wc (some ad325) (rd_L4 y320 x12_1).length (rd_L4 y320 x12_1)) ∧ Aside0 (Kd.C k45 wc (some ad325) (rd_L4 y320 x12_1).length (rd_L4 y320 x12_1)) ∧ Aside0 (Below wT.heap.size wT wc))
               case first =>
                have H := HC19.out
                clear HC19
                by_cases c20 : t327 = t326
                ·rw [if_pos c20] at H
                 have c20b0 : (t327 == t326) = true := beq_iff_eq.mpr c20
                 have c20b1 : (t327 != t326) = false := bne_eq_false_iff_eq.mpr c20
                 clear c20
                 (first|rw [c20b0]|(simp only [i64_w,i32_w];rw [c20b0])|rw [c20b1]|skip)
                 by_cases c21 : t329 = t328
                 ·rw [if_pos c21] at H
                  have c21b0 : (t329 == t328) = true := beq_iff_eq.mpr c21
                  have c21b1 : (t329 != t328) = false := bne_eq_false_iff_eq.mpr c21
                  clear c21
                  by_cases c22 : t328 = t326
                  ·rw [if_pos c22] at H
                   have c22b0 : (t328 == t326) = true := beq_iff_eq.mpr c22
                   have c22b1 : (t328 != t326) = false := bne_eq_false_iff_eq.mpr c22
                   clear c22
                   by_cases c23 : t329 = t327
                   ·rw [if_pos c23] at H
                    have c23b0 : (t329 == t327) = true := beq_iff_eq.mpr c23
                    have c23b1 : (t329 != t327) = false := bne_eq_false_iff_eq.mpr c23
                    clear c23
                    by_cases c24 : t327 = t328
                    ·rw [if_pos c24] at H
                     have c24b0 : (t327 == t328) = true := beq_iff_eq.mpr c24
                     have c24b1 : (t327 != t328) = false := bne_eq_false_iff_eq.mpr c24
                     clear c24
                     have H' := Aside0.mk H
                     clear H
                     go_wp2
                     go_meet
                     case rel => exact ⟨_,((t329 != t327)),(by first|rfl|(simp;done)|(simp [*];done)),H',⟨by have := HK1.out;have := HK2.out;first|omega|exact Nat.le_refl _⟩,⟨by (with_reducible repeat (first|apply Kd.V_alloc|apply Kd.V_drewN|apply Kd.V_drew));exact HO_0.out⟩,⟨by (with_reducible repeat (first|apply Kd.V_alloc|apply Kd.V_drewN|apply Kd.V_drew));exact HO_1.out⟩,⟨by (with_reducible repeat (first|apply Kd.V_alloc|apply Kd.V_drewN|apply Kd.V_drew));exact HO_2.out⟩,⟨by (with_reducible repeat (first|apply Kd.V_alloc|apply Kd.V_drewN|apply Kd.V_drew));exact HO_7.out⟩,⟨by (with_reducible repeat (first|apply Kd.V_alloc|apply Kd.V_drewN|apply Kd.V_drew));exact HO_9.out⟩,⟨by (with_reducible repeat (first|apply Kd.N_alloc|apply Kd.N_drewN|apply Kd.N_drew));exact HO_11.out⟩,⟨by repeat (first|(with_reducible exact HR323_0.out)|(with_reducible refine Kd.C_alloc ?_ _)|(with_reducible refine Kd.C_drewN ?_ _)|(with_reducible refine Kd.C_drew ?_)|exact HR323_0.out)⟩,⟨by repeat (first|(with_reducible exact HR324_0.out)|(with_reducible refine Kd.C_alloc ?_ _)|(with_reducible refine Kd.C_drewN ?_ _)|(with_reducible refine Kd.C_drew ?_)|exact HR324_0.out)⟩,⟨bM HB.out⟩⟩
                    ·rw [if_neg c24] at H
                     have c24b0 : (t327 == t328) = false := beq_eq_false_iff_ne.mpr c24
                     have c24b1 : (t327 != t328) = true := bne_iff_ne.mpr c24
                     have H' := Aside0.mk H
                     clear H
                     go_wp2
                     go_meet
                     case rel => exact ⟨_,(false),(by first|rfl|(simp;done)|(simp [*];done)),H',⟨by have := HK1.out;have := HK2.out;first|omega|exact Nat.le_refl _⟩,⟨by (with_reducible repeat (first|apply Kd.V_alloc|apply Kd.V_drewN|apply Kd.V_drew));exact HO_0.out⟩,⟨by (with_reducible repeat (first|apply Kd.V_alloc|apply Kd.V_drewN|apply Kd.V_drew));exact HO_1.out⟩,⟨by (with_reducible repeat (first|apply Kd.V_alloc|apply Kd.V_drewN|apply Kd.V_drew));exact HO_2.out⟩,⟨by (with_reducible repeat (first|apply Kd.V_alloc|apply Kd.V_drewN|apply Kd.V_drew));exact HO_7.out⟩,⟨by (with_reducible repeat (first|apply Kd.V_alloc|apply Kd.V_drewN|apply Kd.V_drew));exact HO_9.out⟩,⟨by (with_reducible repeat (first|apply Kd.N_alloc|apply Kd.N_drewN|apply Kd.N_drew));exact HO_11.out⟩,⟨by repeat (first|(with_reducible exact HR323_0.out)|(with_reducible refine Kd.C_alloc ?_ _)|(with_reducible refine Kd.C_drewN ?_ _)|(with_reducible refine Kd.C_drew ?_)|exact HR323_0.out)⟩,⟨by repeat (first|(with_reducible exact HR324_0.out)|(with_reducible refine Kd.C_alloc ?_ _)|(with_reducible refine Kd.C_drewN ?_ _)|(with_reducible refine Kd.C_drew ?_)|exact HR324_0.out)⟩,⟨bM HB.out⟩⟩
                   ·rw [if_neg c23] at H
                    have c23b0 : (t329 == t327) = false := beq_eq_false_iff_ne.mpr c23
                    have c23b1 : (t329 != t327) = true := bne_iff_ne.mpr c23
                    have H' := Aside0.mk H
                    clear H
                    go_wp2
                    go_meet
                    case rel => exact ⟨_,(true),(by first|rfl|(simp;done)|(simp [*];done)),H',⟨by have := HK1.out;have := HK2.out;first|omega|exact Nat.le_refl _⟩,⟨by (with_reducible repeat (first|apply Kd.V_alloc|apply Kd.V_drewN|apply Kd.V_drew));exact HO_0.out⟩,⟨by (with_reducible repeat (first|apply Kd.V_alloc|apply Kd.V_drewN|apply Kd.V_drew));exact HO_1.out⟩,⟨by (with_reducible repeat (first|apply Kd.V_alloc|apply Kd.V_drewN|apply Kd.V_drew));exact HO_2.out⟩,⟨by (with_reducible repeat (first|apply Kd.V_alloc|apply Kd.V_drewN|apply Kd.V_drew));exact HO_7.out⟩,⟨by (with_reducible repeat (first|apply Kd.V_alloc|apply Kd.V_drewN|apply Kd.V_drew));exact HO_9.out⟩,⟨by (with_reducible repeat (first|apply Kd.N_alloc|apply Kd.N_drewN|apply Kd.N_drew));exact HO_11.out⟩,⟨by repeat (first|(with_reducible exact HR323_0.out)|(with_reducible refine Kd.C_alloc ?_ _)|(with_reducible refine Kd.C_drewN ?_ _)|(with_reducible refine Kd.C_drew ?_)|exact HR323_0.out)⟩,⟨by repeat (first|(with_reducible exact HR324_0.out)|(with_reducible refine Kd.C_alloc ?_ _)|(with_reducible refine Kd.C_drewN ?_ _)|(with_reducible refine Kd.C_drew ?_)|exact HR324_0.out)⟩,⟨bM HB.out⟩⟩
                  ·rw [if_neg c22] at H
                   have c22b0 : (t328 == t326) = false := beq_eq_false_iff_ne.mpr c22
                   have c22b1 : (t328 != t326) = true := bne_iff_ne.mpr c22
                   by_cases c25 : t327 = t328
                   ·rw [if_pos c25] at H
                    have c25b0 : (t327 == t328) = true := beq_iff_eq.mpr c25
                    have c25b1 : (t327 != t328) = false := bne_eq_false_iff_eq.mpr c25
                    clear c25
                    have H' := Aside0.mk H
                    clear H
                    go_wp2
                    go_meet
                    case rel => exact ⟨_,((t329 != t327)),(by first|rfl|(simp;done)|(simp [*];done)),H',⟨by have := HK1.out;have := HK2.out;first|omega|exact Nat.le_refl _⟩,⟨by (with_reducible repeat (first|apply Kd.V_alloc|apply Kd.V_drewN|apply Kd.V_drew));exact HO_0.out⟩,⟨by (with_reducible repeat (first|apply Kd.V_alloc|apply Kd.V_drewN|apply Kd.V_drew));exact HO_1.out⟩,⟨by (with_reducible repeat (first|apply Kd.V_alloc|apply Kd.V_drewN|apply Kd.V_drew));exact HO_2.out⟩,⟨by (with_reducible repeat (first|apply Kd.V_alloc|apply Kd.V_drewN|apply Kd.V_drew));exact HO_7.out⟩,⟨by (with_reducible repeat (first|apply Kd.V_alloc|apply Kd.V_drewN|apply Kd.V_drew));exact HO_9.out⟩,⟨by (with_reducible repeat (first|apply Kd.N_alloc|apply Kd.N_drewN|apply Kd.N_drew));exact HO_11.out⟩,⟨by repeat (first|(with_reducible exact HR323_0.out)|(with_reducible refine Kd.C_alloc ?_ _)|(with_reducible refine Kd.C_drewN ?_ _)|(with_reducible refine Kd.C_drew ?_)|exact HR323_0.out)⟩,⟨by repeat (first|(with_reducible exact HR324_0.out)|(with_reducible refine Kd.C_alloc ?_ _)|(with_reducible refine Kd.C_drewN ?_ _)|(with_reducible refine Kd.C_drew ?_)|exact HR324_0.out)⟩,⟨bM HB.out⟩⟩
                   ·rw [if_neg c25] at H
                    have c25b0 : (t327 == t328) = false := beq_eq_false_iff_ne.mpr c25
                    have c25b1 : (t327 != t328) = true := bne_iff_ne.mpr c25
                    have H' := Aside0.mk H
                    clear H
                    go_wp2
                    go_meet
                    case rel => exact ⟨_,(false),(by first|rfl|(simp;done)|(simp [*];done)),H',⟨by have := HK1.out;have := HK2.out;first|omega|exact Nat.le_refl _⟩,⟨by (with_reducible repeat (first|apply Kd.V_alloc|apply Kd.V_drewN|apply Kd.V_drew));exact HO_0.out⟩,⟨by (with_reducible repeat (first|apply Kd.V_alloc|apply Kd.V_drewN|apply Kd.V_drew));exact HO_1.out⟩,⟨by (with_reducible repeat (first|apply Kd.V_alloc|apply Kd.V_drewN|apply Kd.V_drew));exact HO_2.out⟩,⟨by (with_reducible repeat (first|apply Kd.V_alloc|apply Kd.V_drewN|apply Kd.V_drew));exact HO_7.out⟩,⟨by (with_reducible repeat (first|apply Kd.V_alloc|apply Kd.V_drewN|apply Kd.V_drew));exact HO_9.out⟩,⟨by (with_reducible repeat (first|apply Kd.N_alloc|apply Kd.N_drewN|apply Kd.N_drew));exact HO_11.out⟩,⟨by repeat (first|(with_reducible exact HR323_0.out)|(with_reducible refine Kd.C_alloc ?_ _)|(with_reducible refine Kd.C_drewN ?_ _)|(with_reducible refine Kd.C_drew ?_)|exact HR323_0.out)⟩,⟨by repeat (first|(with_reducible exact HR324_0.out)|(with_reducible refine Kd.C_alloc ?_ _)|(with_reducible refine Kd.C_drewN ?_ _)|(with_reducible refine Kd.C_drew ?_)|exact HR324_0.out)⟩,⟨bM HB.out⟩⟩
                 ·rw [if_neg c21] at H
                  have c21b0 : (t329 == t328) = false := beq_eq_false_iff_ne.mpr c21
                  have c21b1 : (t329 != t328) = true := bne_iff_ne.mpr c21
                  have H' := Aside0.mk H
                  clear H
                  go_wp2
                  go_meet
                  case rel => exact ⟨_,(true),(by first|rfl|(simp;done)|(simp [*];done)),H',⟨by have := HK1.out;have := HK2.out;first|omega|exact Nat.le_refl _⟩,⟨by (with_reducible repeat (first|apply Kd.V_alloc|apply Kd.V_drewN|apply Kd.V_drew));exact HO_0.out⟩,⟨by (with_reducible repeat (first|apply Kd.V_alloc|apply Kd.V_drewN|apply Kd.V_drew));exact HO_1.out⟩,⟨by (with_reducible repeat (first|apply Kd.V_alloc|apply Kd.V_drewN|apply Kd.V_drew));exact HO_2.out⟩,⟨by (with_reducible repeat (first|apply Kd.V_alloc|apply Kd.V_drewN|apply Kd.V_drew));exact HO_7.out⟩,⟨by (with_reducible repeat (first|apply Kd.V_alloc|apply Kd.V_drewN|apply Kd.V_drew));exact HO_9.out⟩,⟨by (with_reducible repeat (first|apply Kd.N_alloc|apply Kd.N_drewN|apply Kd.N_drew));exact HO_11.out⟩,⟨by repeat (first|(with_reducible exact HR323_0.out)|(with_reducible refine Kd.C_alloc ?_ _)|(with_reducible refine Kd.C_drewN ?_ _)|(with_reducible refine Kd.C_drew ?_)|exact HR323_0.out)⟩,⟨by repeat (first|(with_reducible exact HR324_0.out)|(with_reducible refine Kd.C_alloc ?_ _)|(with_reducible refine Kd.C_drewN ?_ _)|(with_reducible refine Kd.C_drew ?_)|exact HR324_0.out)⟩,⟨bM HB.out⟩⟩
                ·rw [if_neg c20] at H
                 have c20b0 : (t327 == t326) = false := beq_eq_false_iff_ne.mpr c20
                 have c20b1 : (t327 != t326) = true := bne_iff_ne.mpr c20
                 (first|rw [c20b0]|(simp only [i64_w,i32_w];rw [c20b0])|rw [c20b1]|skip)
                 by_cases c26 : t328 = t326
                 ·rw [if_pos c26] at H
                  have c26b0 : (t328 == t326) = true := beq_iff_eq.mpr c26
                  have c26b1 : (t328 != t326) = false := bne_eq_false_iff_eq.mpr c26
                  clear c26
                  by_cases c27 : t329 = t327
                  ·rw [if_pos c27] at H
                   have c27b0 : (t329 == t327) = true := beq_iff_eq.mpr c27
                   have c27b1 : (t329 != t327) = false := bne_eq_false_iff_eq.mpr c27
                   clear c27
                   by_cases c28 : t327 = t328
                   ·rw [if_pos c28] at H
                    have c28b0 : (t327 == t328) = true := beq_iff_eq.mpr c28
                    have c28b1 : (t327 != t328) = false := bne_eq_false_iff_eq.mpr c28
                    clear c28
                    have H' := Aside0.mk H
                    clear H
                    go_wp2
                    go_meet
                    case rel => exact ⟨_,((t329 != t327)),(by first|rfl|(simp;done)|(simp [*];done)),H',⟨by have := HK1.out;have := HK2.out;first|omega|exact Nat.le_refl _⟩,⟨by (with_reducible repeat (first|apply Kd.V_alloc|apply Kd.V_drewN|apply Kd.V_drew));exact HO_0.out⟩,⟨by (with_reducible repeat (first|apply Kd.V_alloc|apply Kd.V_drewN|apply Kd.V_drew));exact HO_1.out⟩,⟨by (with_reducible repeat (first|apply Kd.V_alloc|apply Kd.V_drewN|apply Kd.V_drew));exact HO_2.out⟩,⟨by (with_reducible repeat (first|apply Kd.V_alloc|apply Kd.V_drewN|apply Kd.V_drew));exact HO_7.out⟩,⟨by (with_reducible repeat (first|apply Kd.V_alloc|apply Kd.V_drewN|apply Kd.V_drew));exact HO_9.out⟩,⟨by (with_reducible repeat (first|apply Kd.N_alloc|apply Kd.N_drewN|apply Kd.N_drew));exact HO_11.out⟩,⟨by repeat (first|(with_reducible exact HR323_0.out)|(with_reducible refine Kd.C_alloc ?_ _)|(with_reducible refine Kd.C_drewN ?_ _)|(with_reducible refine Kd.C_drew ?_)|exact HR323_0.out)⟩,⟨by repeat (first|(with_reducible exact HR324_0.out)|(with_reducible refine Kd.C_alloc ?_ _)|(with_reducible refine Kd.C_drewN ?_ _)|(with_reducible refine Kd.C_drew ?_)|exact HR324_0.out)⟩,⟨bM HB.out⟩⟩
                   ·rw [if_neg c28] at H
                    have c28b0 : (t327 == t328) = false := beq_eq_false_iff_ne.mpr c28
                    have c28b1 : (t327 != t328) = true := bne_iff_ne.mpr c28
                    have H' := Aside0.mk H
                    clear H
                    go_wp2
                    go_meet
                    case rel => exact ⟨_,(false),(by first|rfl|(simp;done)|(simp [*];done)),H',⟨by have := HK1.out;have := HK2.out;first|omega|exact Nat.le_refl _⟩,⟨by (with_reducible repeat (first|apply Kd.V_alloc|apply Kd.V_drewN|apply Kd.V_drew));exact HO_0.out⟩,⟨by (with_reducible repeat (first|apply Kd.V_alloc|apply Kd.V_drewN|apply Kd.V_drew));exact HO_1.out⟩,⟨by (with_reducible repeat (first|apply Kd.V_alloc|apply Kd.V_drewN|apply Kd.V_drew));exact HO_2.out⟩,⟨by (with_reducible repeat (first|apply Kd.V_alloc|apply Kd.V_drewN|apply Kd.V_drew));exact HO_7.out⟩,⟨by (with_reducible repeat (first|apply Kd.V_alloc|apply Kd.V_drewN|apply Kd.V_drew));exact HO_9.out⟩,⟨by (with_reducible repeat (first|apply Kd.N_alloc|apply Kd.N_drewN|apply Kd.N_drew));exact HO_11.out⟩,⟨by repeat (first|(with_reducible exact HR323_0.out)|(with_reducible refine Kd.C_alloc ?_ _)|(with_reducible refine Kd.C_drewN ?_ _)|(with_reducible refine Kd.C_drew ?_)|exact HR323_0.out)⟩,⟨by repeat (first|(with_reducible exact HR324_0.out)|(with_reducible refine Kd.C_alloc ?_ _)|(with_reducible refine Kd.C_drewN ?_ _)|(with_reducible refine Kd.C_drew ?_)|exact HR324_0.out)⟩,⟨bM HB.out⟩⟩
                  ·rw [if_neg c27] at H
                   have c27b0 : (t329 == t327) = false := beq_eq_false_iff_ne.mpr c27
                   have c27b1 : (t329 != t327) = true := bne_iff_ne.mpr c27
                   have H' := Aside0.mk H
                   clear H
                   go_wp2
                   go_meet
                   case rel => exact ⟨_,(true),(by first|rfl|(simp;done)|(simp [*];done)),H',⟨by have := HK1.out;have := HK2.out;first|omega|exact Nat.le_refl _⟩,⟨by (with_reducible repeat (first|apply Kd.V_alloc|apply Kd.V_drewN|apply Kd.V_drew));exact HO_0.out⟩,⟨by (with_reducible repeat (first|apply Kd.V_alloc|apply Kd.V_drewN|apply Kd.V_drew));exact HO_1.out⟩,⟨by (with_reducible repeat (first|apply Kd.V_alloc|apply Kd.V_drewN|apply Kd.V_drew));exact HO_2.out⟩,⟨by (with_reducible repeat (first|apply Kd.V_alloc|apply Kd.V_drewN|apply Kd.V_drew));exact HO_7.out⟩,⟨by (with_reducible repeat (first|apply Kd.V_alloc|apply Kd.V_drewN|apply Kd.V_drew));exact HO_9.out⟩,⟨by (with_reducible repeat (first|apply Kd.N_alloc|apply Kd.N_drewN|apply Kd.N_drew));exact HO_11.out⟩,⟨by repeat (first|(with_reducible exact HR323_0.out)|(with_reducible refine Kd.C_alloc ?_ _)|(with_reducible refine Kd.C_drewN ?_ _)|(with_reducible refine Kd.C_drew ?_)|exact HR323_0.out)⟩,⟨by repeat (first|(with_reducible exact HR324_0.out)|(with_reducible refine Kd.C_alloc ?_ _)|(with_reducible refine Kd.C_drewN ?_ _)|(with_reducible refine Kd.C_drew ?_)|exact HR324_0.out)⟩,⟨bM HB.out⟩⟩
                 ·rw [if_neg c26] at H
                  have c26b0 : (t328 == t326) = false := beq_eq_false_iff_ne.mpr c26
                  have c26b1 : (t328 != t326) = true := bne_iff_ne.mpr c26
                  by_cases c29 : t327 = t328
                  ·rw [if_pos c29] at H
                   have c29b0 : (t327 == t328) = true := beq_iff_eq.mpr c29
                   have c29b1 : (t327 != t328) = false := bne_eq_false_iff_eq.mpr c29
                   clear c29
                   have H' := Aside0.mk H
                   clear H
                   go_wp2
                   go_meet
                   case rel => exact ⟨_,((t329 != t327)),(by first|rfl|(simp;done)|(simp [*];done)),H',⟨by have := HK1.out;have := HK2.out;first|omega|exact Nat.le_refl _⟩,⟨by (with_reducible repeat (first|apply Kd.V_alloc|apply Kd.V_drewN|apply Kd.V_drew));exact HO_0.out⟩,⟨by (with_reducible repeat (first|apply Kd.V_alloc|apply Kd.V_drewN|apply Kd.V_drew));exact HO_1.out⟩,⟨by (with_reducible repeat (first|apply Kd.V_alloc|apply Kd.V_drewN|apply Kd.V_drew));exact HO_2.out⟩,⟨by (with_reducible repeat (first|apply Kd.V_alloc|apply Kd.V_drewN|apply Kd.V_drew));exact HO_7.out⟩,⟨by (with_reducible repeat (first|apply Kd.V_alloc|apply Kd.V_drewN|apply Kd.V_drew));exact HO_9.out⟩,⟨by (with_reducible repeat (first|apply Kd.N_alloc|apply Kd.N_drewN|apply Kd.N_drew));exact HO_11.out⟩,⟨by repeat (first|(with_reducible exact HR323_0.out)|(with_reducible refine Kd.C_alloc ?_ _)|(with_reducible refine Kd.C_drewN ?_ _)|(with_reducible refine Kd.C_drew ?_)|exact HR323_0.out)⟩,⟨by repeat (first|(with_reducible exact HR324_0.out)|(with_reducible refine Kd.C_alloc ?_ _)|(with_reducible refine Kd.C_drewN ?_ _)|(with_reducible refine Kd.C_drew ?_)|exact HR324_0.out)⟩,⟨bM HB.out⟩⟩
                  ·rw [if_neg c29] at H
                   have c29b0 : (t327 == t328) = false := beq_eq_false_iff_ne.mpr c29
                   have c29b1 : (t327 != t328) = true := bne_iff_ne.mpr c29
                   have H' := Aside0.mk H
                   clear H
                   go_wp2
                   go_meet
                   case rel => exact ⟨_,(false),(by first|rfl|(simp;done)|(simp [*];done)),H',⟨by have := HK1.out;have := HK2.out;first|omega|exact Nat.le_refl _⟩,⟨by (with_reducible repeat (first|apply Kd.V_alloc|apply Kd.V_drewN|apply Kd.V_drew));exact HO_0.out⟩,⟨by (with_reducible repeat (first|apply Kd.V_alloc|apply Kd.V_drewN|apply Kd.V_drew));exact HO_1.out⟩,⟨by (with_reducible repeat (first|apply Kd.V_alloc|apply Kd.V_drewN|apply Kd.V_drew));exact HO_2.out⟩,⟨by (with_reducible repeat (first|apply Kd.V_alloc|apply Kd.V_drewN|apply Kd.V_drew));exact HO_7.out⟩,⟨by (with_reducible repeat (first|apply Kd.V_alloc|apply Kd.V_drewN|apply Kd.V_drew));exact HO_9.out⟩,⟨by (with_reducible repeat (first|apply Kd.N_alloc|apply Kd.N_drewN|apply Kd.N_drew));exact HO_11.out⟩,⟨by repeat (first|(with_reducible exact HR323_0.out)|(with_reducible refine Kd.C_alloc ?_ _)|(with_reducible refine Kd.C_drewN ?_ _)|(with_reducible refine Kd.C_drew ?_)|exact HR323_0.out)⟩,⟨by repeat (first|(with_reducible exact HR324_0.out)|(with_reducible refine Kd.C_alloc ?_ _)|(with_reducible refine Kd.C_drewN ?_ _)|(with_reducible refine Kd.C_drew ?_)|exact HR324_0.out)⟩,⟨bM HB.out⟩⟩
               case rest =>
                clear HC19
                try clear c1
                try clear c2
                try clear p2
                try clear cc3
                try clear p3
                try clear q3
                try clear hx3
                try clear cc4
                try clear cc5
                try clear c8
                try clear c9
                try clear c9b0
                try clear c11
                try clear c11b0
                try clear c12
                try clear c12b0
                try clear c13
                try clear c13b0
                try clear c14
                try clear c14b0
                try clear c20
                try clear c20b0
                try clear c20b1
                try clear c21
                try clear c21b0
                try clear c21b1
                try clear c22
                try clear c22b0
                try clear c22b1
                try clear c23
                try clear c23b0
                try clear c23b1
                try clear c24
                try clear c24b0
                try clear c24b1
                try clear c25
                try clear c25b0
                try clear c25b1
                try clear c26
                try clear c26b0
                try clear c26b1
                try clear c27
                try clear c27b0
                try clear c27b1
                try clear c28
                try clear c28b0
                try clear c28b1
                try clear c29
                try clear c29b0
                try clear c29b1
                try clear hx323_0
                try clear hx324_0
                try clear hx325_0
                try clear hx325_1
                try clear p2
                try clear p323
                try clear p324
                try clear p325
                try clear q323
                try clear q324
                try clear q325
                obtain ⟨kq,x129_18,rfl,HA,HJ18,HO_0,HO_1,HO_2,HO_7,HO_9,HO_11,HR323_0,HR324_0,HB⟩ := hcut
                cases kq with
               |zero => exact absurd HA.out (by simp [codesearchlaw25_TreeMergesT.j2])
               |succ kj18 =>
                 have H := HA.out
                 clear HA
                 simp only [codesearchlaw25_TreeMergesT.j2] at H
                 by_cases c30 : x129_18 = true
                 ·subst c30
                  have H1 : (some false) = some r := by rw [if_pos rfl] at H;exact H
                  clear H
                  have H := H1
                  clear H1
                  obtain rfl := Option.some.inj H
                  go_wp2
                  go_ret
                  exact ⟨by first|rfl|(simp [errW_none,errW_some] <;> rfl)|(simp [*,errW_none,errW_some] <;> rfl),below_step (bM HBw.out) (bM HB.out)⟩
                 ·replace c30 := Bool.eq_false_iff.mpr c30
                  subst c30
                  have H1 : (codesearchlaw25_TreeMergesT.l2 kj18 l0 l1 l2 l3 l5 l4 y320 x12_1 x13_2 ((rd_T45 (rd_L4 y320 x12_1) x13_2).f0) t326 t327 t328 t329 false 0) = some r := by rw [if_neg (show ¬ (false = true) by decide)] at H;exact H
                  clear H
                  have H := H1
                  clear H1
                  have H' := Aside0.mk H
                  clear H
                  go_wp2
                  go_loopg [19,20] kj18 (fun kq v19 v20 w' => ∃ (x19_4 : Bool) (x20_4 : Int),v19 = .bool x19_4 ∧ v20 = .int .i64 x20_4 ∧ Aside0 (codesearchlaw25_TreeMergesT.l2 kq l0 l1 l2 l3 l5 l4 y320 x12_1 x13_2 ((rd_T45 (rd_L4 y320 x12_1) x13_2).f0) t326 t327 t328 t329 x19_4 x20_4 = some r) ∧ Aside0 (kq ≤ kj18) ∧ Aside0 (Kd.V k45 45 w' wT.heap.size (fun k_ => ((P0_ k_ ∨ P1_ k_ ∨ P2_ k_ ∨ P3_ k_ ∨ P4_ k_) ∨ wT.heap.size ≤ k_) ∧ some k_ ≠ ((.slice (some ad323) y320.length co10) : Value).ownBlock) (.slice A0 l0.length c0) l0) ∧ Aside0 (Kd.V k45 45 w' wT.heap.size (fun k_ => ((P0_ k_ ∨ P1_ k_ ∨ P2_ k_ ∨ P3_ k_ ∨ P4_ k_) ∨ wT.heap.size ≤ k_) ∧ some k_ ≠ ((.slice (some ad323) y320.length co10) : Value).ownBlock) (.slice A1 l1.length c1) l1) ∧ Aside0 (Kd.V k45 45 w' wT.heap.size (fun k_ => ((P0_ k_ ∨ P1_ k_ ∨ P2_ k_ ∨ P3_ k_ ∨ P4_ k_) ∨ wT.heap.size ≤ k_) ∧ some k_ ≠ ((.slice (some ad323) y320.length co10) : Value).ownBlock) (.slice A2 l2.length c2) l2) ∧ Aside0 (Kd.V k45 45 w' wT.heap.size (fun k_ => ((P0_ k_ ∨ P1_ k_ ∨ P2_ k_ ∨ P3_ k_ ∨ P4_ k_) ∨ wT.heap.size ≤ k_) ∧ some k_ ≠ ((.slice (some ad323) y320.length co10) : Value).ownBlock) (.slice A3 l3.length cc3) l3) ∧ Aside0 (Kd.V k45 45 w' wT.heap.size (fun k_ => ((P0_ k_ ∨ P1_ k_ ∨ P2_ k_ ∨ P3_ k_ ∨ P4_ k_) ∨ wT.heap.size ≤ k_) ∧ some k_ ≠ ((.slice (some ad323) y320.length co10) : Value).ownBlock) (.slice A4 l4.length cc4) l4) ∧ Aside0 (Kd.N (Kd.slice 45 k45) 22 w' wT.heap.size (fun k_ => ((P0_ k_ ∨ P1_ k_ ∨ P2_ k_ ∨ P3_ k_ ∨ P4_ k_) ∨ wT.heap.size ≤ k_)) (.slice (some ad323) y320.length co10) y320) ∧ Aside0 (Kd.C k45 w' (some ad325) (rd_L4 y320 x12_1).length (rd_L4 y320 x12_1)) ∧ Aside0 (Kd.C k45 w' (some ad325) (rd_L4 y320 x12_1).length (rd_L4 y320 x12_1)) ∧ Aside0 (Below wT.heap.size wT w'))
                  case atStart => exact ⟨(false),(0),(by first|rfl|(simp;done)|(simp [*];done)),(by first|rfl|(simp;done)|(simp [*];done)),H',⟨Nat.le_refl _⟩,⟨by (with_reducible repeat (first|apply Kd.V_alloc|apply Kd.V_drewN|apply Kd.V_drew));exact HO_0.out⟩,⟨by (with_reducible repeat (first|apply Kd.V_alloc|apply Kd.V_drewN|apply Kd.V_drew));exact HO_1.out⟩,⟨by (with_reducible repeat (first|apply Kd.V_alloc|apply Kd.V_drewN|apply Kd.V_drew));exact HO_2.out⟩,⟨by (with_reducible repeat (first|apply Kd.V_alloc|apply Kd.V_drewN|apply Kd.V_drew));exact HO_7.out⟩,⟨by (with_reducible repeat (first|apply Kd.V_alloc|apply Kd.V_drewN|apply Kd.V_drew));exact HO_9.out⟩,⟨by (with_reducible repeat (first|apply Kd.N_alloc|apply Kd.N_drewN|apply Kd.N_drew));exact HO_11.out⟩,⟨by repeat (first|(with_reducible exact HR323_0.out)|(with_reducible refine Kd.C_alloc ?_ _)|(with_reducible refine Kd.C_drewN ?_ _)|(with_reducible refine Kd.C_drew ?_)|exact HR323_0.out)⟩,⟨by repeat (first|(with_reducible exact HR324_0.out)|(with_reducible refine Kd.C_alloc ?_ _)|(with_reducible refine Kd.C_drewN ?_ _)|(with_reducible refine Kd.C_drew ?_)|exact HR324_0.out)⟩,⟨bM HB.out⟩⟩
                  case round =>
                   clear H'
                   try clear c1
                   try clear c2
                   try clear p2
                   try clear cc3
                   try clear p3
                   try clear q3
                   try clear hx3
                   try clear cc4
                   try clear cc5
                   try clear c8
                   try clear c9
                   try clear c9b0
                   try clear c11
                   try clear c11b0
                   try clear c12
                   try clear c12b0
                   try clear c13
                   try clear c13b0
                   try clear c14
                   try clear c14b0
                   try clear c20
                   try clear c20b0
                   try clear c20b1
                   try clear c21
                   try clear c21b0
                   try clear c21b1
                   try clear c22
                   try clear c22b0
                   try clear c22b1
                   try clear c23
                   try clear c23b0
                   try clear c23b1
                   try clear c24
                   try clear c24b0
                   try clear c24b1
                   try clear c25
                   try clear c25b0
                   try clear c25b1
                   try clear c26
                   try clear c26b0
                   try clear c26b1
                   try clear c27
                   try clear c27b0
                   try clear c27b1
                   try clear c28
                   try clear c28b0
                   try clear c28b1
                   try clear c29
                   try clear c29b0
                   try clear c29b1
                   try clear c30
                   try clear hx323_0
                   try clear hx324_0
                   try clear hx325_0
                   try clear hx325_1
                   try clear p2
                   try clear p3
                   try clear p323
                   try clear p324
                   try clear p325
                   try clear q3
                   try clear q323
                   try clear q324
                   try clear q325
                   obtain ⟨x19_4,x20_4,rfl,rfl,HA,HK4,HO_0,HO_1,HO_2,HO_7,HO_9,HO_11,HR323_0,HR324_0,HB⟩ := hrel
                   cases gk with
                  |zero => exact absurd HA.out (by simp [codesearchlaw25_TreeMergesT.l2])
                  |succ k4 =>
                    have H := HA.out
                    clear HA
                    simp only [codesearchlaw25_TreeMergesT.l2] at H
                    by_cases c31 : x20_4 < (l5.length : Int)
                    ·rw [if_pos c31] at H
                     have c31b0 : decide (x20_4 < (l5.length : Int)) = true := decide_eq_true c31
                     clear c31
                     by_cases c32 : x19_4 = true
                     ·subst c32
                      have H1 : (codesearchlaw25_TreeMergesT.l2 k4 l0 l1 l2 l3 l5 l4 y320 x12_1 x13_2 ((rd_T45 (rd_L4 y320 x12_1) x13_2).f0) t326 t327 t328 t329 true (wrap64 (x20_4 + 1))) = some r := by rw [if_pos rfl] at H;exact H
                      clear H
                      have H := H1
                      clear H1
                      have H' := Aside0.mk H
                      clear H
                      go_wp2
                      go_roundg k4
                      case measure => have := HK1.out;have := HK2.out;have := HJ18.out;have := HK4.out;omega
                      case rel => exact ⟨(true),(wrap64 (x20_4 + 1)),(by first|rfl|(simp;done)|(simp [*];done)),(by first|rfl|(simp;done)|(simp [*];done)),H',⟨by have := HK1.out;have := HK2.out;have := HJ18.out;have := HK4.out;omega⟩,⟨by (with_reducible repeat (first|apply Kd.V_alloc|apply Kd.V_drewN|apply Kd.V_drew));exact HO_0.out⟩,⟨by (with_reducible repeat (first|apply Kd.V_alloc|apply Kd.V_drewN|apply Kd.V_drew));exact HO_1.out⟩,⟨by (with_reducible repeat (first|apply Kd.V_alloc|apply Kd.V_drewN|apply Kd.V_drew));exact HO_2.out⟩,⟨by (with_reducible repeat (first|apply Kd.V_alloc|apply Kd.V_drewN|apply Kd.V_drew));exact HO_7.out⟩,⟨by (with_reducible repeat (first|apply Kd.V_alloc|apply Kd.V_drewN|apply Kd.V_drew));exact HO_9.out⟩,⟨by (with_reducible repeat (first|apply Kd.N_alloc|apply Kd.N_drewN|apply Kd.N_drew));exact HO_11.out⟩,⟨by repeat (first|(with_reducible exact HR323_0.out)|(with_reducible refine Kd.C_alloc ?_ _)|(with_reducible refine Kd.C_drewN ?_ _)|(with_reducible refine Kd.C_drew ?_)|exact HR323_0.out)⟩,⟨by repeat (first|(with_reducible exact HR324_0.out)|(with_reducible refine Kd.C_alloc ?_ _)|(with_reducible refine Kd.C_drewN ?_ _)|(with_reducible refine Kd.C_drew ?_)|exact HR324_0.out)⟩,⟨bM HB.out⟩⟩
                     ·replace c32 := Bool.eq_false_iff.mpr c32
                      subst c32
                      have H1 : (if 0 ≤ x20_4 then (codesearchlaw25_TreeMergesT.l2 k4 l0 l1 l2 l3 l5 l4 y320 x12_1 x13_2 ((rd_T45 (rd_L4 y320 x12_1) x13_2).f0) t326 t327 t328 t329 ((rdOf ByteArray.empty l5 x20_4).toList == ((rd_T45 (rd_L4 y320 x12_1) x13_2).f0).toList) (wrap64 (x20_4 + 1))) else (none)) = some r := by rw [if_neg (show ¬ (false = true) by decide)] at H;exact H
                      clear H
                      have H := H1
                      clear H1
                      by_cases c33 : 0 ≤ x20_4
                      ·rw [if_pos c33] at H
                       have c33b0 : decide (0 ≤ x20_4) = true := decide_eq_true c33
                       clear c33
                       have H' := Aside0.mk H
                       clear H
                       have p330 : 0 ≤ (x20_4 : Int) := of_decide_eq_true (by first|(with_reducible assumption)|assumption)
                       have q330 : x20_4 < (l5.length : Int) := of_decide_eq_true (by first|(with_reducible assumption)|assumption)
                       obtain ⟨ad330,e330,hx330_0⟩ := Kd.at_string HR5.out x20_4 p330 q330
                       cases e330
                       replace hx330_0 := (HB.out.cell (World.block_lt_of_cell? wT _ hx330_0)).trans hx330_0
                       replace p330 := eq_true p330
                       replace q330 := eq_true q330
                       go_wp2
                       go_roundg k4
                       case measure => have := HK1.out;have := HK2.out;have := HJ18.out;have := HK4.out;omega
                       case rel => exact ⟨(((rdOf ByteArray.empty l5 x20_4).toList == ((rd_T45 (rd_L4 y320 x12_1) x13_2).f0).toList)),(wrap64 (x20_4 + 1)),(by first|rfl|(simp;done)|(simp [*];done)),(by first|rfl|(simp;done)|(simp [*];done)),H',⟨by have := HK1.out;have := HK2.out;have := HJ18.out;have := HK4.out;omega⟩,⟨by (with_reducible repeat (first|apply Kd.V_alloc|apply Kd.V_drewN|apply Kd.V_drew));exact HO_0.out⟩,⟨by (with_reducible repeat (first|apply Kd.V_alloc|apply Kd.V_drewN|apply Kd.V_drew));exact HO_1.out⟩,⟨by (with_reducible repeat (first|apply Kd.V_alloc|apply Kd.V_drewN|apply Kd.V_drew));exact HO_2.out⟩,⟨by (with_reducible repeat (first|apply Kd.V_alloc|apply Kd.V_drewN|apply Kd.V_drew));exact HO_7.out⟩,⟨by (with_reducible repeat (first|apply Kd.V_alloc|apply Kd.V_drewN|apply Kd.V_drew));exact HO_9.out⟩,⟨by (with_reducible repeat (first|apply Kd.N_alloc|apply Kd.N_drewN|apply Kd.N_drew));exact HO_11.out⟩,⟨by repeat (first|(with_reducible exact HR323_0.out)|(with_reducible refine Kd.C_alloc ?_ _)|(with_reducible refine Kd.C_drewN ?_ _)|(with_reducible refine Kd.C_drew ?_)|exact HR323_0.out)⟩,⟨by repeat (first|(with_reducible exact HR324_0.out)|(with_reducible refine Kd.C_alloc ?_ _)|(with_reducible refine Kd.C_drewN ?_ _)|(with_reducible refine Kd.C_drew ?_)|exact HR324_0.out)⟩,⟨bM HB.out⟩⟩
                      ·rw [if_neg c33] at H
                       exact absurd H (by simp)
                    ·rw [if_neg c31] at H
                     have c31b0 : decide (x20_4 < (l5.length : Int)) = false := decide_eq_false c31
                     clear c31
                     by_cases c34 : t327 = t326
                     ·rw [if_pos c34] at H
                      have c34b0 : (t327 == t326) = true := beq_iff_eq.mpr c34
                      have c34b1 : (t327 != t326) = false := bne_eq_false_iff_eq.mpr c34
                      clear c34
                      by_cases c35 : (x19_4 != false) = true
                      ·rw [if_pos c35] at H
                       have c35b0 : (x19_4 != false) = true := c35
                       (try (have c35b1 : decide (x19_4 = false) = false := by simpa using c35))
                       (try (have c35b2 : (x19_4 == false) = false := by simpa using c35))
                       (try (have c35b3 : ¬ (x19_4 = false) := by simpa using c35))
                       clear c35
                       obtain rfl := Option.some.inj H
                       go_wp2
                       go_ret
                       exact ⟨by first|rfl|(simp [errW_none,errW_some] <;> rfl)|(simp [*,errW_none,errW_some] <;> rfl),below_step (bM HBw.out) (bM HB.out)⟩
                      ·rw [if_neg c35] at H
                       have c35b0 : (x19_4 != false) = false := by simpa using c35
                       (try (have c35b1 : decide (x19_4 = false) = true := by simpa using c35))
                       (try (have c35b2 : (x19_4 == false) = true := by simpa using c35))
                       clear c35
                       by_cases c36 : x19_4 = true
                       ·subst c36
                        have H1 : (codesearchlaw25_TreeMergesT.l1 k4 l0 l1 l2 l3 l5 l4 y320 x12_1 (wrap64 (x13_2 + 1))) = some r := by rw [if_pos rfl] at H;exact H
                        clear H
                        have H := H1
                        clear H1
                        have H' := Aside0.mk H
                        clear H
                        go_wp2
                        go_roundg k4
                        case measure => have := HK1.out;have := HK2.out;have := HJ18.out;have := HK4.out;omega
                        case rel => exact ⟨(wrap64 (x13_2 + 1)),(by first|rfl|(simp;done)|(simp [*];done)),H',⟨by have := HK1.out;have := HK2.out;have := HJ18.out;have := HK4.out;omega⟩,⟨by (with_reducible repeat (first|apply Kd.V_alloc|apply Kd.V_drewN|apply Kd.V_drew));exact HO_0.out⟩,⟨by (with_reducible repeat (first|apply Kd.V_alloc|apply Kd.V_drewN|apply Kd.V_drew));exact HO_1.out⟩,⟨by (with_reducible repeat (first|apply Kd.V_alloc|apply Kd.V_drewN|apply Kd.V_drew));exact HO_2.out⟩,⟨by (with_reducible repeat (first|apply Kd.V_alloc|apply Kd.V_drewN|apply Kd.V_drew));exact HO_7.out⟩,⟨by (with_reducible repeat (first|apply Kd.V_alloc|apply Kd.V_drewN|apply Kd.V_drew));exact HO_9.out⟩,⟨by (with_reducible repeat (first|apply Kd.N_alloc|apply Kd.N_drewN|apply Kd.N_drew));exact HO_11.out⟩,⟨bM HB.out⟩⟩
                       ·replace c36 := Bool.eq_false_iff.mpr c36
                        subst c36
                        have H1 : ((codesearchlaw25_held.f k4 l4 ((rd_T45 (rd_L4 y320 x12_1) x13_2).f0)).bind fun t331 => (if t331 = t329 then (codesearchlaw25_TreeMergesT.l1 k4 l0 l1 l2 l3 l5 l4 y320 x12_1 (wrap64 (x13_2 + 1))) else (some false))) = some r := by rw [if_neg (show ¬ (false = true) by decide)] at H;exact H
                        clear H
                        have H := H1
                        clear H1
                        replace H := Option.bind_eq_some_iff.mp H
                        obtain ⟨t331,A370,H⟩ := H
                        replace H : (if t331 = t329 then (codesearchlaw25_TreeMergesT.l1 k4 l0 l1 l2 l3 l5 l4 y320 x12_1 (wrap64 (x13_2 + 1))) else (some false)) = some r := H
                        have A37 := Aside0.mk A370
                        clear A370
                        by_cases c38 : t331 = t329
                        ·rw [if_pos c38] at H
                         have c38b0 : (t331 == t329) = true := beq_iff_eq.mpr c38
                         have c38b1 : (t331 != t329) = false := bne_eq_false_iff_eq.mpr c38
                         clear c38
                         have H' := Aside0.mk H
                         clear H
                         go_wp2_with (first|(go_at_call 30;(with_reducible refine (codesearchlaw25_held.calls k4 _ _ l4 ((rd_T45 (rd_L4 y320 x12_1) x13_2).f0) t331 _ ?side1 ?side2 A37.out).mono ?_);(case side1 => repeat (first|exact (Kd.V_reads' HO_9.out).2.2|(with_reducible refine Kd.C_alloc ?_ _)|(with_reducible refine Kd.C_drewN ?_ _)|(with_reducible refine Kd.C_drew ?_)));(case side2 => exact (Kd.V_reads' HO_9.out).2.1);rintro e w' ⟨rfl,⟨nd,rfl⟩⟩))
                         go_roundg k4
                         case measure => have := HK1.out;have := HK2.out;have := HJ18.out;have := HK4.out;omega
                         case rel => exact ⟨(wrap64 (x13_2 + 1)),(by first|rfl|(simp;done)|(simp [*];done)),H',⟨by have := HK1.out;have := HK2.out;have := HJ18.out;have := HK4.out;omega⟩,⟨by (with_reducible repeat (first|apply Kd.V_alloc|apply Kd.V_drewN|apply Kd.V_drew));exact HO_0.out⟩,⟨by (with_reducible repeat (first|apply Kd.V_alloc|apply Kd.V_drewN|apply Kd.V_drew));exact HO_1.out⟩,⟨by (with_reducible repeat (first|apply Kd.V_alloc|apply Kd.V_drewN|apply Kd.V_drew));exact HO_2.out⟩,⟨by (with_reducible repeat (first|apply Kd.V_alloc|apply Kd.V_drewN|apply Kd.V_drew));exact HO_7.out⟩,⟨by (with_reducible repeat (first|apply Kd.V_alloc|apply Kd.V_drewN|apply Kd.V_drew));exact HO_9.out⟩,⟨by (with_reducible repeat (first|apply Kd.N_alloc|apply Kd.N_drewN|apply Kd.N_drew));exact HO_11.out⟩,⟨bM HB.out⟩⟩
                        ·rw [if_neg c38] at H
                         have c38b0 : (t331 == t329) = false := beq_eq_false_iff_ne.mpr c38
                         have c38b1 : (t331 != t329) = true := bne_iff_ne.mpr c38
                         obtain rfl := Option.some.inj H
                         go_wp2_with (first|(go_at_call 30;(with_reducible refine (codesearchlaw25_held.calls k4 _ _ l4 ((rd_T45 (rd_L4 y320 x12_1) x13_2).f0) t331 _ ?side1 ?side2 A37.out).mono ?_);(case side1 => repeat (first|exact (Kd.V_reads' HO_9.out).2.2|(with_reducible refine Kd.C_alloc ?_ _)|(with_reducible refine Kd.C_drewN ?_ _)|(with_reducible refine Kd.C_drew ?_)));(case side2 => exact (Kd.V_reads' HO_9.out).2.1);rintro e w' ⟨rfl,⟨nd,rfl⟩⟩))
                         go_ret
                         exact ⟨by first|rfl|(simp [errW_none,errW_some] <;> rfl)|(simp [*,errW_none,errW_some] <;> rfl),below_step (bM HBw.out) (bM HB.out)⟩
                     ·rw [if_neg c34] at H
                      have c34b0 : (t327 == t326) = false := beq_eq_false_iff_ne.mpr c34
                      have c34b1 : (t327 != t326) = true := bne_iff_ne.mpr c34
                      by_cases c39 : t328 = t326
                      ·rw [if_pos c39] at H
                       have c39b0 : (t328 == t326) = true := beq_iff_eq.mpr c39
                       have c39b1 : (t328 != t326) = false := bne_eq_false_iff_eq.mpr c39
                       clear c39
                       by_cases c40 : (x19_4 != false) = true
                       ·rw [if_pos c40] at H
                        have c40b0 : (x19_4 != false) = true := c40
                        (try (have c40b1 : decide (x19_4 = false) = false := by simpa using c40))
                        (try (have c40b2 : (x19_4 == false) = false := by simpa using c40))
                        (try (have c40b3 : ¬ (x19_4 = false) := by simpa using c40))
                        clear c40
                        obtain rfl := Option.some.inj H
                        go_wp2
                        go_ret
                        exact ⟨by first|rfl|(simp [errW_none,errW_some] <;> rfl)|(simp [*,errW_none,errW_some] <;> rfl),below_step (bM HBw.out) (bM HB.out)⟩
                       ·rw [if_neg c40] at H
                        have c40b0 : (x19_4 != false) = false := by simpa using c40
                        (try (have c40b1 : decide (x19_4 = false) = true := by simpa using c40))
                        (try (have c40b2 : (x19_4 == false) = true := by simpa using c40))
                        clear c40
                        by_cases c41 : x19_4 = true
                        ·subst c41
                         have H1 : (codesearchlaw25_TreeMergesT.l1 k4 l0 l1 l2 l3 l5 l4 y320 x12_1 (wrap64 (x13_2 + 1))) = some r := by rw [if_pos rfl] at H;exact H
                         clear H
                         have H := H1
                         clear H1
                         have H' := Aside0.mk H
                         clear H
                         go_wp2
                         go_roundg k4
                         case measure => have := HK1.out;have := HK2.out;have := HJ18.out;have := HK4.out;omega
                         case rel => exact ⟨(wrap64 (x13_2 + 1)),(by first|rfl|(simp;done)|(simp [*];done)),H',⟨by have := HK1.out;have := HK2.out;have := HJ18.out;have := HK4.out;omega⟩,⟨by (with_reducible repeat (first|apply Kd.V_alloc|apply Kd.V_drewN|apply Kd.V_drew));exact HO_0.out⟩,⟨by (with_reducible repeat (first|apply Kd.V_alloc|apply Kd.V_drewN|apply Kd.V_drew));exact HO_1.out⟩,⟨by (with_reducible repeat (first|apply Kd.V_alloc|apply Kd.V_drewN|apply Kd.V_drew));exact HO_2.out⟩,⟨by (with_reducible repeat (first|apply Kd.V_alloc|apply Kd.V_drewN|apply Kd.V_drew));exact HO_7.out⟩,⟨by (with_reducible repeat (first|apply Kd.V_alloc|apply Kd.V_drewN|apply Kd.V_drew));exact HO_9.out⟩,⟨by (with_reducible repeat (first|apply Kd.N_alloc|apply Kd.N_drewN|apply Kd.N_drew));exact HO_11.out⟩,⟨bM HB.out⟩⟩
                        ·replace c41 := Bool.eq_false_iff.mpr c41
                         subst c41
                         have H1 : ((codesearchlaw25_held.f k4 l4 ((rd_T45 (rd_L4 y320 x12_1) x13_2).f0)).bind fun t332 => (if t332 = t329 then (codesearchlaw25_TreeMergesT.l1 k4 l0 l1 l2 l3 l5 l4 y320 x12_1 (wrap64 (x13_2 + 1))) else (some false))) = some r := by rw [if_neg (show ¬ (false = true) by decide)] at H;exact H
                         clear H
                         have H := H1
                         clear H1
                         replace H := Option.bind_eq_some_iff.mp H
                         obtain ⟨t332,A420,H⟩ := H
                         replace H : (if t332 = t329 then (codesearchlaw25_TreeMergesT.l1 k4 l0 l1 l2 l3 l5 l4 y320 x12_1 (wrap64 (x13_2 + 1))) else (some false)) = some r := H
                         have A42 := Aside0.mk A420
                         clear A420
                         by_cases c43 : t332 = t329
                         ·rw [if_pos c43] at H
                          have c43b0 : (t332 == t329) = true := beq_iff_eq.mpr c43
                          have c43b1 : (t332 != t329) = false := bne_eq_false_iff_eq.mpr c43
                          clear c43
                          have H' := Aside0.mk H
                          clear H
                          go_wp2_with (first|(go_at_call 30;(with_reducible refine (codesearchlaw25_held.calls k4 _ _ l4 ((rd_T45 (rd_L4 y320 x12_1) x13_2).f0) t332 _ ?side1 ?side2 A42.out).mono ?_);(case side1 => repeat (first|exact (Kd.V_reads' HO_9.out).2.2|(with_reducible refine Kd.C_alloc ?_ _)|(with_reducible refine Kd.C_drewN ?_ _)|(with_reducible refine Kd.C_drew ?_)));(case side2 => exact (Kd.V_reads' HO_9.out).2.1);rintro e w' ⟨rfl,⟨nd,rfl⟩⟩))
                          go_roundg k4
                          case measure => have := HK1.out;have := HK2.out;have := HJ18.out;have := HK4.out;omega
                          case rel => exact ⟨(wrap64 (x13_2 + 1)),(by first|rfl|(simp;done)|(simp [*];done)),H',⟨by have := HK1.out;have := HK2.out;have := HJ18.out;have := HK4.out;omega⟩,⟨by (with_reducible repeat (first|apply Kd.V_alloc|apply Kd.V_drewN|apply Kd.V_drew));exact HO_0.out⟩,⟨by (with_reducible repeat (first|apply Kd.V_alloc|apply Kd.V_drewN|apply Kd.V_drew));exact HO_1.out⟩,⟨by (with_reducible repeat (first|apply Kd.V_alloc|apply Kd.V_drewN|apply Kd.V_drew));exact HO_2.out⟩,⟨by (with_reducible repeat (first|apply Kd.V_alloc|apply Kd.V_drewN|apply Kd.V_drew));exact HO_7.out⟩,⟨by (with_reducible repeat (first|apply Kd.V_alloc|apply Kd.V_drewN|apply Kd.V_drew));exact HO_9.out⟩,⟨by (with_reducible repeat (first|apply Kd.N_alloc|apply Kd.N_drewN|apply Kd.N_drew));exact HO_11.out⟩,⟨bM HB.out⟩⟩
                         ·rw [if_neg c43] at H
                          have c43b0 : (t332 == t329) = false := beq_eq_false_iff_ne.mpr c43
                          have c43b1 : (t332 != t329) = true := bne_iff_ne.mpr c43
                          obtain rfl := Option.some.inj H
                          go_wp2_with (first|(go_at_call 30;(with_reducible refine (codesearchlaw25_held.calls k4 _ _ l4 ((rd_T45 (rd_L4 y320 x12_1) x13_2).f0) t332 _ ?side1 ?side2 A42.out).mono ?_);(case side1 => repeat (first|exact (Kd.V_reads' HO_9.out).2.2|(with_reducible refine Kd.C_alloc ?_ _)|(with_reducible refine Kd.C_drewN ?_ _)|(with_reducible refine Kd.C_drew ?_)));(case side2 => exact (Kd.V_reads' HO_9.out).2.1);rintro e w' ⟨rfl,⟨nd,rfl⟩⟩))
                          go_ret
                          exact ⟨by first|rfl|(simp [errW_none,errW_some] <;> rfl)|(simp [*,errW_none,errW_some] <;> rfl),below_step (bM HBw.out) (bM HB.out)⟩
                      ·rw [if_neg c39] at H
                       have c39b0 : (t328 == t326) = false := beq_eq_false_iff_ne.mpr c39
                       have c39b1 : (t328 != t326) = true := bne_iff_ne.mpr c39
                       by_cases c44 : (x19_4 != (t327 != t328)) = true
                       ·rw [if_pos c44] at H
                        have c44b0 : (x19_4 != (t327 != t328)) = true := c44
                        (try (have c44b1 : decide (x19_4 = (t327 != t328)) = false := by simpa using c44))
                        (try (have c44b2 : (x19_4 == (t327 != t328)) = false := by simpa using c44))
                        (try (have c44b3 : ¬ (x19_4 = (t327 != t328)) := by simpa using c44))
                        clear c44
                        obtain rfl := Option.some.inj H
                        go_wp2
                        go_ret
                        exact ⟨by first|rfl|(simp [errW_none,errW_some] <;> rfl)|(simp [*,errW_none,errW_some] <;> rfl),below_step (bM HBw.out) (bM HB.out)⟩
                       ·rw [if_neg c44] at H
                        have c44b0 : (x19_4 != (t327 != t328)) = false := by simpa using c44
                        (try (have c44b1 : decide (x19_4 = (t327 != t328)) = true := by simpa using c44))
                        (try (have c44b2 : (x19_4 == (t327 != t328)) = true := by simpa using c44))
                        clear c44
                        by_cases c45 : x19_4 = true
                        ·subst c45
                         have H1 : (codesearchlaw25_TreeMergesT.l1 k4 l0 l1 l2 l3 l5 l4 y320 x12_1 (wrap64 (x13_2 + 1))) = some r := by rw [if_pos rfl] at H;exact H
                         clear H
                         have H := H1
                         clear H1
                         have H' := Aside0.mk H
                         clear H
                         go_wp2
                         go_roundg k4
                         case measure => have := HK1.out;have := HK2.out;have := HJ18.out;have := HK4.out;omega
                         case rel => exact ⟨(wrap64 (x13_2 + 1)),(by first|rfl|(simp;done)|(simp [*];done)),H',⟨by have := HK1.out;have := HK2.out;have := HJ18.out;have := HK4.out;omega⟩,⟨by (with_reducible repeat (first|apply Kd.V_alloc|apply Kd.V_drewN|apply Kd.V_drew));exact HO_0.out⟩,⟨by (with_reducible repeat (first|apply Kd.V_alloc|apply Kd.V_drewN|apply Kd.V_drew));exact HO_1.out⟩,⟨by (with_reducible repeat (first|apply Kd.V_alloc|apply Kd.V_drewN|apply Kd.V_drew));exact HO_2.out⟩,⟨by (with_reducible repeat (first|apply Kd.V_alloc|apply Kd.V_drewN|apply Kd.V_drew));exact HO_7.out⟩,⟨by (with_reducible repeat (first|apply Kd.V_alloc|apply Kd.V_drewN|apply Kd.V_drew));exact HO_9.out⟩,⟨by (with_reducible repeat (first|apply Kd.N_alloc|apply Kd.N_drewN|apply Kd.N_drew));exact HO_11.out⟩,⟨bM HB.out⟩⟩
                        ·replace c45 := Bool.eq_false_iff.mpr c45
                         subst c45
                         have H1 : ((codesearchlaw25_held.f k4 l4 ((rd_T45 (rd_L4 y320 x12_1) x13_2).f0)).bind fun t333 => (if t333 = t329 then (codesearchlaw25_TreeMergesT.l1 k4 l0 l1 l2 l3 l5 l4 y320 x12_1 (wrap64 (x13_2 + 1))) else (some false))) = some r := by rw [if_neg (show ¬ (false = true) by decide)] at H;exact H
                         clear H
                         have H := H1
                         clear H1
                         replace H := Option.bind_eq_some_iff.mp H
                         obtain ⟨t333,A460,H⟩ := H
                         replace H : (if t333 = t329 then (codesearchlaw25_TreeMergesT.l1 k4 l0 l1 l2 l3 l5 l4 y320 x12_1 (wrap64 (x13_2 + 1))) else (some false)) = some r := H
                         have A46 := Aside0.mk A460
                         clear A460
                         by_cases c47 : t333 = t329
                         ·rw [if_pos c47] at H
                          have c47b0 : (t333 == t329) = true := beq_iff_eq.mpr c47
                          have c47b1 : (t333 != t329) = false := bne_eq_false_iff_eq.mpr c47
                          clear c47
                          have H' := Aside0.mk H
                          clear H
                          go_wp2_with (first|(go_at_call 30;(with_reducible refine (codesearchlaw25_held.calls k4 _ _ l4 ((rd_T45 (rd_L4 y320 x12_1) x13_2).f0) t333 _ ?side1 ?side2 A46.out).mono ?_);(case side1 => repeat (first|exact (Kd.V_reads' HO_9.out).2.2|(with_reducible refine Kd.C_alloc ?_ _)|(with_reducible refine Kd.C_drewN ?_ _)|(with_reducible refine Kd.C_drew ?_)));(case side2 => exact (Kd.V_reads' HO_9.out).2.1);rintro e w' ⟨rfl,⟨nd,rfl⟩⟩))
                          go_roundg k4
                          case measure => have := HK1.out;have := HK2.out;have := HJ18.out;have := HK4.out;omega
                          case rel => exact ⟨(wrap64 (x13_2 + 1)),(by first|rfl|(simp;done)|(simp [*];done)),H',⟨by have := HK1.out;have := HK2.out;have := HJ18.out;have := HK4.out;omega⟩,⟨by (with_reducible repeat (first|apply Kd.V_alloc|apply Kd.V_drewN|apply Kd.V_drew));exact HO_0.out⟩,⟨by (with_reducible repeat (first|apply Kd.V_alloc|apply Kd.V_drewN|apply Kd.V_drew));exact HO_1.out⟩,⟨by (with_reducible repeat (first|apply Kd.V_alloc|apply Kd.V_drewN|apply Kd.V_drew));exact HO_2.out⟩,⟨by (with_reducible repeat (first|apply Kd.V_alloc|apply Kd.V_drewN|apply Kd.V_drew));exact HO_7.out⟩,⟨by (with_reducible repeat (first|apply Kd.V_alloc|apply Kd.V_drewN|apply Kd.V_drew));exact HO_9.out⟩,⟨by (with_reducible repeat (first|apply Kd.N_alloc|apply Kd.N_drewN|apply Kd.N_drew));exact HO_11.out⟩,⟨bM HB.out⟩⟩
                         ·rw [if_neg c47] at H
                          have c47b0 : (t333 == t329) = false := beq_eq_false_iff_ne.mpr c47
                          have c47b1 : (t333 != t329) = true := bne_iff_ne.mpr c47
                          obtain rfl := Option.some.inj H
                          go_wp2_with (first|(go_at_call 30;(with_reducible refine (codesearchlaw25_held.calls k4 _ _ l4 ((rd_T45 (rd_L4 y320 x12_1) x13_2).f0) t333 _ ?side1 ?side2 A46.out).mono ?_);(case side1 => repeat (first|exact (Kd.V_reads' HO_9.out).2.2|(with_reducible refine Kd.C_alloc ?_ _)|(with_reducible refine Kd.C_drewN ?_ _)|(with_reducible refine Kd.C_drew ?_)));(case side2 => exact (Kd.V_reads' HO_9.out).2.1);rintro e w' ⟨rfl,⟨nd,rfl⟩⟩))
                          go_ret
                          exact ⟨by first|rfl|(simp [errW_none,errW_some] <;> rfl)|(simp [*,errW_none,errW_some] <;> rfl),below_step (bM HBw.out) (bM HB.out)⟩
              ·rw [if_neg c14] at H
               exact absurd H (by simp)
             ·rw [if_neg c13] at H
              have c13b0 : decide (x13_2 < ((rd_L4 y320 x12_1).length : Int)) = false := decide_eq_false c13
              clear c13
              have H' := Aside0.mk H
              clear H
              have p323 : 0 ≤ (x12_1 : Int) := of_decide_eq_true (by first|(with_reducible assumption)|assumption)
              have q323 : x12_1 < (y320.length : Int) := of_decide_eq_true (by first|(with_reducible assumption)|assumption)
              obtain ⟨ad323,A323_0,c323_0,e323,hx323_0,hl323_0,hi323_0⟩ := at_L4 (Kd.N_reads' HO_11.out).2.2 x12_1 p323 q323
              cases e323
              obtain ⟨ce323,hce323,hMe323,hcc323⟩ := Kd.N_get HO_11.out [] x12_1 p323 (by first|exact q323|exact of_decide_eq_true (by first|(with_reducible assumption)|assumption)|(have e_ := (Kd.N_reads' HO_11.out).1;omega))
              obtain ⟨ua323_0,uc323_0,rfl,ul323_0,ge323_0⟩ := Kd.FK_slice_open hMe323
              have hv323_0 := hcc323 0 _ rfl
              rw [Nat.add_zero,show ((Kd.slice 45 k45)).sz = 1 from rfl,Nat.mul_one] at hv323_0
              replace hv323_0 := Option.some.inj (hv323_0.symm.trans hx323_0)
              injection hv323_0 with hva_ hvn_ hvc_
              rw [hva_] at ge323_0
              rw [hvc_] at ul323_0
              have HL323_0 := Aside0.mk (show Kd.V k45 45 _ wT.heap.size _ _ (rd_L4 y320 x12_1) from Kd.V_mk ul323_0 ge323_0)
              clear hva_ hvn_ hvc_ ge323_0 ul323_0
              clear hcc323 hce323
              have HR323_0 := Aside0.mk hi323_0
              have HC323_0 := Aside0.mk hl323_0
              clear hi323_0 hl323_0
              replace p323 := eq_true p323
              replace q323 := eq_true q323
              go_wp2
              go_roundg k2
              case measure => have := HK1.out;have := HK2.out;omega
              case rel => exact ⟨(wrap64 (x12_1 + 1)),(by first|rfl|(simp;done)|(simp [*];done)),H',⟨by have := HK1.out;have := HK2.out;omega⟩,⟨by (with_reducible repeat (first|apply Kd.V_alloc|apply Kd.V_drewN|apply Kd.V_drew));exact HO_0.out⟩,⟨by (with_reducible repeat (first|apply Kd.V_alloc|apply Kd.V_drewN|apply Kd.V_drew));exact HO_1.out⟩,⟨by (with_reducible repeat (first|apply Kd.V_alloc|apply Kd.V_drewN|apply Kd.V_drew));exact HO_2.out⟩,⟨by (with_reducible repeat (first|apply Kd.V_alloc|apply Kd.V_drewN|apply Kd.V_drew));exact HO_7.out⟩,⟨by (with_reducible repeat (first|apply Kd.V_alloc|apply Kd.V_drewN|apply Kd.V_drew));exact HO_9.out⟩,⟨by (with_reducible repeat (first|apply Kd.N_alloc|apply Kd.N_drewN|apply Kd.N_drew));exact HO_11.out⟩,⟨bM HB.out⟩⟩
            ·rw [if_neg c12] at H
             exact absurd H (by simp)
           ·rw [if_neg c11] at H
            exact absurd H (by simp)
        ·rw [if_neg c9] at H
         have c9b0 : decide (x12_1 < (y320.length : Int)) = false := decide_eq_false c9
         clear c9
         obtain rfl := Option.some.inj H
         obtain ⟨Ao48,co48,eo48⟩ := Kd.N_slice HO_11.out
         subst eo48
         go_wp2
         go_ret
         exact ⟨by first|rfl|(simp [errW_none,errW_some] <;> rfl)|(simp [*,errW_none,errW_some] <;> rfl),below_step (bM HBw.out) (bM HB.out)⟩
     ·replace c16 := Bool.eq_false_iff.mpr c16
      subst c16
      have H1 : (some false) = some r := by rw [if_neg (show ¬ (false = true) by decide)] at H;exact H
      clear H
      have H := H1
      clear H1
      obtain rfl := Option.some.inj H
      go_wp2_with (first|((with_reducible refine gate_callee (f := 28) rfl ?_);refine goesL_ (some 47) rfl rfl Tryd.func28 (by kernel_rfl) rfl #[.slice A0 l0.length c0,.slice A1 l1.length c1,.slice A2 l2.length c2] rfl (by (try simp only [List.map_toArray,List.map_cons,List.map_nil]);first|done|rfl|(simp only [List.length_drop,List.length_take];rfl)) ?_;(with_reducible refine (tree_Merge.calls _ _ l0 _ _ l1 _ _ l2 l3 l5 _ ?side1 ?side2 ?side3 ?side4 ?side5 ?side6 A13.out).mono ?_);(case side1 => exact cM (Kd.C_below HR0.out HB.out));(case side2 => exact HC0.out);(case side3 => exact cM (Kd.C_below HR1.out HB.out));(case side4 => exact HC1.out);(case side5 => exact cM (Kd.C_below HR2.out HB.out));(case side6 => exact HC2.out);rintro e w21 ⟨v255,v257,rfl,ho0,ho1,hb⟩;refine ⟨_,rfl,?_⟩;have n0_ := Aside0.mk (Kd.R_lower ho0 (below_size (bM HB.out)));have n1_ := Aside0.mk (Kd.R_lower ho1 (below_size (bM HB.out)));have n2_ := Aside0.mk (below_step (bM HB.out) hb);clear HB;have HO256 := n0_;have HO258 := n1_;have HB := n2_;clear n0_ n1_ n2_;(try clear hb);(try clear hb2);(try clear hk);(try clear hi);(try clear ho0);(try clear ho1))|((with_reducible refine gate_callee (f := 28) rfl ?_);refine goesL_ (some 54) rfl rfl Tryd.func28 (by kernel_rfl) rfl #[.slice A0 l0.length c0,.slice A2 l2.length c2,.slice A1 l1.length c1] rfl (by (try simp only [List.map_toArray,List.map_cons,List.map_nil]);first|done|rfl|(simp only [List.length_drop,List.length_take];rfl)) ?_;(with_reducible refine (tree_Merge.calls _ _ l0 _ _ l2 _ _ l1 l4 t260 _ ?side1 ?side2 ?side3 ?side4 ?side5 ?side6 A14.out).mono ?_);(case side1 => exact cM (Kd.C_below HR0.out HB.out));(case side2 => exact HC0.out);(case side3 => exact cM (Kd.C_below HR2.out HB.out));(case side4 => exact HC2.out);(case side5 => exact cM (Kd.C_below HR1.out HB.out));(case side6 => exact HC1.out);rintro e w22 ⟨v261,v263,rfl,ho0,ho1,hb⟩;refine ⟨_,rfl,?_⟩;have n0_ := Aside0.mk (Kd.R_elder' (rM HO256.out) (Kd.R_base ho0) hb);have n1_ := Aside0.mk (Kd.R_elder' (rM HO258.out) (Kd.R_base ho1) hb);have n2_ := Aside0.mk (Kd.R_lower (Kd.R_new' ho0 (Kd.R_lt (rM HO256.out))) (below_size (bM HB.out)));have n3_ := Aside0.mk (Kd.R_lower (Kd.R_new' ho1 (Kd.R_lt (rM HO258.out))) (below_size (bM HB.out)));have n4_ := Aside0.mk (below_step (bM HB.out) hb);clear HO256;clear HO258;clear HB;have HO256 := n0_;have HO258 := n1_;have HO262 := n2_;have HO264 := n3_;have HB := n4_;clear n0_ n1_ n2_ n3_ n4_;(try clear hb);(try clear hb2);(try clear hk);(try clear hi);(try clear ho0);(try clear ho1);obtain ⟨Ao23,co23,eo23⟩ := Kd.R_slice HO258.out;subst eo23;obtain ⟨Ao24,co24,eo24⟩ := Kd.R_slice HO264.out;subst eo24)|((with_reducible refine gate_callee (f := 25) rfl ?_);refine goesL_ (some 59) rfl rfl Tryd.func25 (by kernel_rfl) rfl #[.slice Ao23 l5.length co23,.slice Ao24 t260.length co24] rfl (by (try simp only [List.map_toArray,List.map_cons,List.map_nil]);first|done|rfl|(simp only [List.length_drop,List.length_take];rfl)) ?_;(with_reducible refine (codesearchref01_Strings.calls kj5 _ _ l5 _ _ t260 false _ ?side1 ?side2 ?side3 ?side4 A15.out).mono ?_);(case side1 => exact cM (Kd.R_reads' HO258.out).2.2);(case side2 => exact (Kd.R_reads' HO258.out).2.1);(case side3 => exact cM (Kd.R_reads' HO264.out).2.2);(case side4 => exact (Kd.R_reads' HO264.out).2.1);rintro e w' ⟨rfl,⟨nd,rfl⟩⟩;refine ⟨_,rfl,?_⟩))
      go_ret
      exact ⟨by first|rfl|(simp [errW_none,errW_some] <;> rfl)|(simp [*,errW_none,errW_some] <;> rfl),bM HB.out⟩
 ·replace c5 := Bool.eq_false_iff.mpr c5
  subst c5
  have H1 : (some false) = some r := by rw [if_neg (show ¬ (false = true) by decide)] at H;exact H
  clear H
  have H := H1
  clear H1
  obtain rfl := Option.some.inj H
  go_enter Tryd.func8,Tryd.ntmps8
  go_wp2_with (first|((with_reducible refine gate_callee (f := 11) rfl ?_);refine goesL_ (some 21) rfl rfl Tryd.func11 (by kernel_rfl) rfl #[] rfl (by (try simp only [List.map_toArray,List.map_cons,List.map_nil]);first|done|rfl|(simp only [List.length_drop,List.length_take];rfl)) ?_;(with_reducible refine (codesearchlaw25_alive.calls k  false _ A4.out).mono ?_);rintro e w25 ⟨rfl,hb⟩;refine ⟨_,rfl,?_⟩;have n0_ := Aside0.mk (below_step (bM HB.out) hb);clear HB;have HB := n0_;clear n0_;(try clear hb);(try clear hb2);(try clear hk);(try clear hi)))
  go_ret
  exact ⟨by first|rfl|(simp [errW_none,errW_some] <;> rfl)|(simp [*,errW_none,errW_some] <;> rfl),bM HB.out⟩

end Go.Proofs.YtpnhamfodjfacaaDoor.M
