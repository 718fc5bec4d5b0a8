-- Written by hp.py, a program of this session, over the kit's print of the translation. Not trusted: Lean checks it.
import Derived.Test.YtpnhamfodjfacaaDoorMx0
import Derived.Test.YtpnhamfodjfacaaDoorMx7
import Derived.Test.YtpnhamfodjfacaaDoorMx8
import Derived.Test.YtpnhamfodjfacaaDoorMx10
import Derived.Test.YtpnhamfodjfacaaDoorMx11
namespace Go.Proofs.YtpnhamfodjfacaaDoor.M
open Go.RowKit Go.Proofs.YtpnhamfodjfacaaDoorW.PrintWords Go.Proofs.YtpnhamfodjfacaaDoorW.PrintLast Go.Proofs.YtpnhamfodjfacaaDoorW.PrintMore
attribute [local go_sem] max2_int min2_int max_two min_two max_three min_three max_four min_four   -- for this text's walks alone
set_option linter.unusedVariables false
set_option linter.unusedSimpArgs false

/-! ### codesearchref25_Merge: function 29 -/
mutual
def codesearchref25_Merge.l0 : Nat → List (S45) → List (S45) → List (S45) → List (S45) → List ByteArray → List ByteArray → Int → Option ((List (S45)) × List ByteArray)
|0,_,_,_,_,_,_,_ => none
|k + 1,x0,x1,x2,x8,x9,x10,x11 => if x11 < (x10.length : Int) then (if 0 ≤ x11 then ((codesearchref25_blob.f k x0 (rdOf ByteArray.empty x10 x11)).bind fun t285 => ((codesearchref25_blob.f k x1 (rdOf ByteArray.empty x10 x11)).bind fun t287 => ((codesearchref25_blob.f k x2 (rdOf ByteArray.empty x10 x11)).bind fun t289 => (if t287 = t285 then (codesearchref25_Merge.j1 k x0 x1 x2 x8 x9 x10 x11 t285 t287 t289 t289) else (codesearchref25_Merge.j1 k x0 x1 x2 x8 x9 x10 x11 t285 t287 t289 t287))))) else (none)) else (some (x8,x9))
def codesearchref25_Merge.j1 : Nat → List (S45) → List (S45) → List (S45) → List (S45) → List ByteArray → List ByteArray → Int → Int → Int → Int → Int → Option ((List (S45)) × List ByteArray)
|0,_,_,_,_,_,_,_,_,_,_,_ => none
|k + 1,x0,x1,x2,x8,x9,x10,x11,x12,x13,x14,x15 => if x15 = 0 then (if x13 = x12 then (codesearchref25_Merge.l0 k x0 x1 x2 x8 x9 x10 (wrap64 (x11 + 1))) else (if x14 = x12 then (codesearchref25_Merge.l0 k x0 x1 x2 x8 x9 x10 (wrap64 (x11 + 1))) else (if x13 = x14 then (codesearchref25_Merge.l0 k x0 x1 x2 x8 x9 x10 (wrap64 (x11 + 1))) else (if 0 ≤ x11 then (if x11 < (x10.length : Int) then (if x9.length < 8796093022208 then (codesearchref25_Merge.l0 k x0 x1 x2 x8 (x9 ++ [rdOf ByteArray.empty x10 x11]) x10 (wrap64 (x11 + 1))) else (none)) else (none)) else (none))))) else (if 0 ≤ x11 then (if x11 < (x10.length : Int) then (if x8.length < 5864062014805 then ((some (x8 ++ [(⟨rdOf ByteArray.empty x10 x11,x15⟩ : S45)] : List (S45))).bind fun y295 => (if x13 = x12 then (codesearchref25_Merge.l0 k x0 x1 x2 y295 x9 x10 (wrap64 (x11 + 1))) else (if x14 = x12 then (codesearchref25_Merge.l0 k x0 x1 x2 y295 x9 x10 (wrap64 (x11 + 1))) else (if x13 = x14 then (codesearchref25_Merge.l0 k x0 x1 x2 y295 x9 x10 (wrap64 (x11 + 1))) else (if x9.length < 8796093022208 then (codesearchref25_Merge.l0 k x0 x1 x2 y295 (x9 ++ [rdOf ByteArray.empty x10 x11]) x10 (wrap64 (x11 + 1))) else (none)))))) else (none)) else (none)) else (none))
end
def codesearchref25_Merge.f (k : Nat) (l0 : List (S45)) (l1 : List (S45)) (l2 : List (S45)) : Option ((List (S45)) × List ByteArray) := (codesearchref25_paths.f k l0 l1 l2).bind fun t281 => (codesearchref25_Merge.l0 k l0 l1 l2 ([] : List (S45)) ([] : List ByteArray) t281 0)
theorem codesearchref25_Merge.mono_l : ∀ k, (∀ y0 y1 y2 y3 y4 y5 y6, LeO (codesearchref25_Merge.l0 k y0 y1 y2 y3 y4 y5 y6) (codesearchref25_Merge.l0 (k + 1) y0 y1 y2 y3 y4 y5 y6)) ∧ (∀ y0 y1 y2 y3 y4 y5 y6 y7 y8 y9 y10, LeO (codesearchref25_Merge.j1 k y0 y1 y2 y3 y4 y5 y6 y7 y8 y9 y10) (codesearchref25_Merge.j1 (k + 1) y0 y1 y2 y3 y4 y5 y6 y7 y8 y9 y10))
|0 => ⟨fun _ _ _ _ _ _ _ r h => by simp [codesearchref25_Merge.l0] at h,fun _ _ _ _ _ _ _ _ _ _ _ r h => by simp [codesearchref25_Merge.j1] at h⟩
|k + 1 => by
  obtain ⟨ih0,ih1⟩ := codesearchref25_Merge.mono_l k
  refine ⟨?_,?_⟩
  ·intro y0 y1 y2 y3 y4 y5 y6
   unfold codesearchref25_Merge.l0
   repeat' first
  |(with_reducible exact ih0 _ _ _ _ _ _ _)
  |(with_reducible exact ih1 _ _ _ _ _ _ _ _ _ _ _)
  |(with_reducible exact codesearchref25_blob.mono _ _ _)
  |(with_reducible exact codesearchref25_paths.mono _ _ _ _)
  |(with_reducible exact LeO.refl _)
  |(with_reducible exact LeO.none _)
  |(with_reducible refine LeO.ite ?_ ?_)
  |(with_reducible refine LeO.bind ?_ (fun _ => ?_))
  |exact ih0 _ _ _ _ _ _ _
  |exact ih1 _ _ _ _ _ _ _ _ _ _ _
  |exact codesearchref25_blob.mono _ _ _
  |exact codesearchref25_paths.mono _ _ _ _
  |exact LeO.none _
  |refine LeO.ite ?_ ?_
  |refine LeO.bind ?_ (fun _ => ?_)
  ·intro y0 y1 y2 y3 y4 y5 y6 y7 y8 y9 y10
   unfold codesearchref25_Merge.j1
   repeat' first
  |(with_reducible exact ih0 _ _ _ _ _ _ _)
  |(with_reducible exact ih1 _ _ _ _ _ _ _ _ _ _ _)
  |(with_reducible exact codesearchref25_blob.mono _ _ _)
  |(with_reducible exact codesearchref25_paths.mono _ _ _ _)
  |(with_reducible exact LeO.refl _)
  |(with_reducible exact LeO.none _)
  |(with_reducible refine LeO.ite ?_ ?_)
  |(with_reducible refine LeO.bind ?_ (fun _ => ?_))
  |exact ih0 _ _ _ _ _ _ _
  |exact ih1 _ _ _ _ _ _ _ _ _ _ _
  |exact codesearchref25_blob.mono _ _ _
  |exact codesearchref25_paths.mono _ _ _ _
  |exact LeO.none _
  |refine LeO.ite ?_ ?_
  |refine LeO.bind ?_ (fun _ => ?_)
theorem codesearchref25_Merge.mono : ∀ a0 a1 a2 k, LeO (codesearchref25_Merge.f k a0 a1 a2) (codesearchref25_Merge.f (k + 1) a0 a1 a2) := by
 intro a0 a1 a2 k
 obtain ⟨ih0,ih1⟩ := codesearchref25_Merge.mono_l k
 unfold codesearchref25_Merge.f
 repeat' first
  |(with_reducible exact ih0 _ _ _ _ _ _ _)
  |(with_reducible exact ih1 _ _ _ _ _ _ _ _ _ _ _)
  |(with_reducible exact codesearchref25_blob.mono _ _ _)
  |(with_reducible exact codesearchref25_paths.mono _ _ _ _)
  |(with_reducible exact LeO.refl _)
  |(with_reducible exact LeO.none _)
  |(with_reducible refine LeO.ite ?_ ?_)
  |(with_reducible refine LeO.bind ?_ (fun _ => ?_))
  |exact ih0 _ _ _ _ _ _ _
  |exact ih1 _ _ _ _ _ _ _ _ _ _ _
  |exact codesearchref25_blob.mono _ _ _
  |exact codesearchref25_paths.mono _ _ _ _
  |exact LeO.none _
  |refine LeO.ite ?_ ?_
  |refine LeO.bind ?_ (fun _ => ?_)
set_option maxHeartbeats 4000000 in
set_option maxRecDepth 100000 in
theorem codesearchref25_Merge.calls (k : Nat) (A0 : Option Addr) (c0 : Nat) (l0 : List (S45)) (A1 : Option Addr) (c1 : Nat) (l1 : List (S45)) (A2 : Option Addr) (c2 : Nat) (l2 : List (S45)) (r1 : List (S45)) (r2 : List ByteArray) (w : World) (hr0 : Kd.C k45 w A0 l0.length l0) (hc0 : l0.length ≤ c0) (hr1 : Kd.C k45 w A1 l1.length l1) (hc1 : l1.length ≤ c1) (hr2 : Kd.C k45 w A2 l2.length l2) (hc2 : l2.length ≤ c2) (h : codesearchref25_Merge.f k l0 l1 l2 = some (r1, r2)) :
  Calls Tryd.prog 29 #[.slice A0 l0.length c0,.slice A1 l1.length c1,.slice A2 l2.length c2] w fun e w' => ∃ v0_ v1_ : Value,e = .returned (.tuple #[v0_,v1_]) ∧ Kd.R k45 45 w' w.heap.size (fun _ => True) v0_ r1 ∧ Kd.R Kd.string 9 w' w.heap.size (fun _ => True) v1_ r2 ∧ Below w.heap.size w w' := by
 have hu45 := Tryd.underlying45
 have HR0 := Aside0.mk hr0
 have HC0 := Aside0.mk hc0
 clear hr0 hc0
 have HR1 := Aside0.mk hr1
 have HC1 := Aside0.mk hc1
 clear hr1 hc1
 have HR2 := Aside0.mk hr2
 have HC2 := Aside0.mk hc2
 clear hr2 hc2
 have HB := Aside0.mk (Below.refl w.heap.size w)
 have H : ((codesearchref25_paths.f k l0 l1 l2).bind fun t281 => (codesearchref25_Merge.l0 k l0 l1 l2 ([] : List (S45)) ([] : List ByteArray) t281 0)) = some (r1,r2) := h
 clear h
 replace H := Option.bind_eq_some_iff.mp H
 obtain ⟨t281,A40,H⟩ := H
 replace H : (codesearchref25_Merge.l0 k l0 l1 l2 ([] : List (S45)) ([] : List ByteArray) t281 0) = some (r1,r2) := H
 have A4 := Aside0.mk A40
 clear A40
 have H' := Aside0.mk H
 clear H
 go_enter Tryd.func29,Tryd.ntmps29
 go_wp2_with (first|((with_reducible refine gate_callee (f := 41) rfl ?_);refine goesL_ (some 19) rfl rfl Tryd.func41 (by kernel_rfl) rfl #[.slice A0 l0.length c0,.slice A1 l1.length c1,.slice A2 l2.length c2] rfl (by (try simp only [List.map_toArray,List.map_cons,List.map_nil]);first|done|rfl|(simp only [List.length_drop,List.length_take];rfl)) ?_;(with_reducible refine (codesearchref25_paths.calls k (fun k_ => k_ < w.heap.size) _ _ l0 (fun k_ => k_ < w.heap.size) _ _ l1 (fun k_ => k_ < w.heap.size) _ _ l2 t281 _ ?side1 ?side2 ?side3 A4.out).mono ?_);(case side1 => exact Kd.V_mk HC0.out (Kd.F_below (Kd.C_F k45_heap HR0.out) (bM HB.out)));(case side2 => exact Kd.V_mk HC1.out (Kd.F_below (Kd.C_F k45_heap HR1.out) (bM HB.out)));(case side3 => exact Kd.V_mk HC2.out (Kd.F_below (Kd.C_F k45_heap HR2.out) (bM HB.out)));rintro e w5 ⟨v282,rfl,ho0,hb⟩;refine ⟨_,rfl,?_⟩;have n0_ := Aside0.mk (Kd.R_lower (Kd.R_mono (ok' := fun k_ => True) ho0 (fun _ hk_ => trivial)) (below_size (bM HB.out)));have n1_ := Aside0.mk (below_step (bM HB.out) hb);clear HB;have HO283 := n0_;have HB := n1_;clear n0_ n1_;(try clear hb);(try clear hb2);(try clear hk);(try clear hi);(try clear ho0)))
 go_loopg [8,9,11] k (fun kq v8 v9 v11 w' => ∃ (x8_1 : List (S45)) (x9_1 : List ByteArray) (x11_1 : Int),v11 = .int .i64 x11_1 ∧ Aside0 (codesearchref25_Merge.l0 kq l0 l1 l2 x8_1 x9_1 t281 x11_1 = some (r1,r2)) ∧ Aside0 (kq ≤ k) ∧ Aside0 (Kd.R k45 45 w' w.heap.size (fun _ => True) v8 x8_1) ∧ Aside0 (Kd.R Kd.string 9 w' w.heap.size (fun k_ => some k_ ≠ (v282 : Value).ownBlock) v9 x9_1) ∧ Aside0 (Kd.R Kd.string 9 w' w.heap.size (fun k_ => some k_ ≠ (v9 : Value).ownBlock) v282 t281) ∧ Aside0 (Below w.heap.size w w'))
 case atStart => exact ⟨(([] : List (S45))),(([] : List ByteArray)),(0),(by first|rfl|(simp;done)|(simp [*];done)),H',⟨Nat.le_refl _⟩,⟨by first|exact Kd.R_nil _ _ _ _ _|exact Kd.N_nil _ _ _ _ _|exact Kd.V_nil _ _ _ _ _|exact Kd.Q_nil _ _ _ _ _|exact Kd.S_nil _ _ _ _ _⟩,⟨by first|exact Kd.R_nil _ _ _ _ _|exact Kd.N_nil _ _ _ _ _|exact Kd.V_nil _ _ _ _ _|exact Kd.Q_nil _ _ _ _ _|exact Kd.S_nil _ _ _ _ _⟩,⟨rM (Kd.R_mono HO283.out (fun _ hk => (by simp [Value.ownBlock])))⟩,⟨bM HB.out⟩⟩
 case round =>
  clear H'
  try clear c1
  try clear c2
  try clear p2
  try clear c4
  obtain ⟨x8_1,x9_1,x11_1,rfl,HA,HK1,HO_8,HO_9,HO_10,HB⟩ := hrel
  cases gk with
 |zero => exact absurd HA.out (by simp [codesearchref25_Merge.l0])
 |succ k1 =>
   have H := HA.out
   clear HA
   simp only [codesearchref25_Merge.l0] at H
   by_cases c6 : x11_1 < (t281.length : Int)
   ·rw [if_pos c6] at H
    have c6b0 : decide (x11_1 < (t281.length : Int)) = true := decide_eq_true c6
    clear c6
    by_cases c7 : 0 ≤ x11_1
    ·rw [if_pos c7] at H
     have c7b0 : decide (0 ≤ x11_1) = true := decide_eq_true c7
     clear c7
     replace H := Option.bind_eq_some_iff.mp H
     obtain ⟨t285,A80,H⟩ := H
     replace H : ((codesearchref25_blob.f k1 l1 (rdOf ByteArray.empty t281 x11_1)).bind fun t287 => ((codesearchref25_blob.f k1 l2 (rdOf ByteArray.empty t281 x11_1)).bind fun t289 => (if t287 = t285 then (codesearchref25_Merge.j1 k1 l0 l1 l2 x8_1 x9_1 t281 x11_1 t285 t287 t289 t289) else (codesearchref25_Merge.j1 k1 l0 l1 l2 x8_1 x9_1 t281 x11_1 t285 t287 t289 t287)))) = some (r1,r2) := H
     have A8 := Aside0.mk A80
     clear A80
     replace H := Option.bind_eq_some_iff.mp H
     obtain ⟨t287,A90,H⟩ := H
     replace H : ((codesearchref25_blob.f k1 l2 (rdOf ByteArray.empty t281 x11_1)).bind fun t289 => (if t287 = t285 then (codesearchref25_Merge.j1 k1 l0 l1 l2 x8_1 x9_1 t281 x11_1 t285 t287 t289 t289) else (codesearchref25_Merge.j1 k1 l0 l1 l2 x8_1 x9_1 t281 x11_1 t285 t287 t289 t287))) = some (r1,r2) := H
     have A9 := Aside0.mk A90
     clear A90
     replace H := Option.bind_eq_some_iff.mp H
     obtain ⟨t289,A100,H⟩ := H
     replace H : (if t287 = t285 then (codesearchref25_Merge.j1 k1 l0 l1 l2 x8_1 x9_1 t281 x11_1 t285 t287 t289 t289) else (codesearchref25_Merge.j1 k1 l0 l1 l2 x8_1 x9_1 t281 x11_1 t285 t287 t289 t287)) = some (r1,r2) := H
     have A10 := Aside0.mk A100
     clear A100
     have HC11 := Aside0.mk H
     clear H
     obtain ⟨Ao12,co12,eo12⟩ := Kd.R_slice HO_10.out
     subst eo12
     have p284 : 0 ≤ (x11_1 : Int) := of_decide_eq_true (by first|(with_reducible assumption)|assumption)
     have q284 : x11_1 < (t281.length : Int) := of_decide_eq_true (by first|(with_reducible assumption)|assumption)
     obtain ⟨ad284,e284,hx284_0⟩ := Kd.at_string (Kd.R_reads' HO_10.out).2.2 x11_1 p284 q284
     cases e284
     replace p284 := eq_true p284
     replace q284 := eq_true q284
     go_upto_if 47 with (first|((with_reducible refine gate_callee (f := 35) rfl ?_);refine goesL_ (some 31) rfl rfl Tryd.func35 (by kernel_rfl) rfl #[.slice A0 l0.length c0,.string (rdOf ByteArray.empty t281 x11_1)] rfl (by (try simp only [List.map_toArray,List.map_cons,List.map_nil]);first|done|rfl|(simp only [List.length_drop,List.length_take];rfl)) ?_;(with_reducible refine (codesearchref25_blob.calls k1 _ _ l0 (rdOf ByteArray.empty t281 x11_1) t285 _ ?side1 ?side2 A8.out).mono ?_);(case side1 => exact cM (Kd.C_below HR0.out HB.out));(case side2 => exact HC0.out);rintro e w' ⟨rfl,⟨nd,rfl⟩⟩;refine ⟨_,rfl,?_⟩;have p286 : 0 ≤ (x11_1 : Int) := of_decide_eq_true (by first|(with_reducible assumption)|assumption);have q286 : x11_1 < (t281.length : Int) := of_decide_eq_true (by first|(with_reducible assumption)|assumption);obtain ⟨ad286,e286,hx286_0⟩ := Kd.at_string (Kd.R_reads' HO_10.out).2.2 x11_1 p286 q286;obtain rfl : ad284 = ad286 := (by injection e286);replace p286 := eq_true p286;replace q286 := eq_true q286)|((with_reducible refine gate_callee (f := 35) rfl ?_);refine goesL_ (some 37) rfl rfl Tryd.func35 (by kernel_rfl) rfl #[.slice A1 l1.length c1,.string (rdOf ByteArray.empty t281 x11_1)] rfl (by (try simp only [List.map_toArray,List.map_cons,List.map_nil]);first|done|rfl|(simp only [List.length_drop,List.length_take];rfl)) ?_;(with_reducible refine (codesearchref25_blob.calls k1 _ _ l1 (rdOf ByteArray.empty t281 x11_1) t287 _ ?side1 ?side2 A9.out).mono ?_);(case side1 => repeat (first|exact (Kd.C_below HR1.out (bM HB.out))|(with_reducible refine Kd.C_alloc ?_ _)|(with_reducible refine Kd.C_drewN ?_ _)|(with_reducible refine Kd.C_drew ?_)));(case side2 => exact HC1.out);rintro e w' ⟨rfl,⟨nd,rfl⟩⟩;refine ⟨_,rfl,?_⟩;have p288 : 0 ≤ (x11_1 : Int) := of_decide_eq_true (by first|(with_reducible assumption)|assumption);have q288 : x11_1 < (t281.length : Int) := of_decide_eq_true (by first|(with_reducible assumption)|assumption);obtain ⟨ad288,e288,hx288_0⟩ := Kd.at_string (Kd.R_reads' HO_10.out).2.2 x11_1 p288 q288;obtain rfl : ad284 = ad288 := (by injection e288);replace p288 := eq_true p288;replace q288 := eq_true q288)|((with_reducible refine gate_callee (f := 35) rfl ?_);refine goesL_ (some 43) rfl rfl Tryd.func35 (by kernel_rfl) rfl #[.slice A2 l2.length c2,.string (rdOf ByteArray.empty t281 x11_1)] rfl (by (try simp only [List.map_toArray,List.map_cons,List.map_nil]);first|done|rfl|(simp only [List.length_drop,List.length_take];rfl)) ?_;(with_reducible refine (codesearchref25_blob.calls k1 _ _ l2 (rdOf ByteArray.empty t281 x11_1) t289 _ ?side1 ?side2 A10.out).mono ?_);(case side1 => repeat (first|exact (Kd.C_below HR2.out (bM HB.out))|(with_reducible refine Kd.C_alloc ?_ _)|(with_reducible refine Kd.C_drewN ?_ _)|(with_reducible refine Kd.C_drew ?_)));(case side2 => exact HC2.out);rintro e w' ⟨rfl,⟨nd,rfl⟩⟩;refine ⟨_,rfl,?_⟩))
     (try simp only [Act.put,List.setIfInBounds_toArray,List.set_cons_zero,List.set_cons_succ])
     go_cut [15] (fun v15 wc => ∃ (kq : Nat) (x15_10 : Int),v15 = .int .i64 x15_10 ∧ Aside0 (codesearchref25_Merge.j1 kq l0 l1 l2 x8_1 x9_1 t281 x11_1 t285 t287 t289 x15_10 = some (r1,r2)) ∧ Aside0 (kq ≤ k1) ∧ Aside0 (Kd.R k45 45 wc w.heap.size (fun _ => True) u8 x8_1) ∧ Aside0 (Kd.R Kd.string 9 wc w.heap.size (fun k_ => some k_ ≠ ((.slice (some ad284) t281.length co12) : Value).ownBlock) u9 x9_1) ∧ Aside0 (Kd.R Kd.string 9 wc w.heap.size (fun k_ => some k_ ≠ (u9 : Value).ownBlock) (.slice (some ad284) t281.length co12) t281) ∧ Aside0 (Below w.heap.size w wc))
     case first =>
      have H := HC11.out
      clear HC11
      by_cases c13 : t287 = t285
      ·rw [if_pos c13] at H
       have c13b0 : (t287 == t285) = true := beq_iff_eq.mpr c13
       have c13b1 : (t287 != t285) = false := bne_eq_false_iff_eq.mpr c13
       clear c13
       (first|rw [c13b0]|(simp only [i64_w,i32_w];rw [c13b0])|rw [c13b1]|skip)
       have H' := Aside0.mk H
       clear H
       go_wp2
       go_meet
       case rel => exact ⟨_,(t289),(by first|rfl|(simp;done)|(simp [*];done)),H',⟨by have := HK1.out;first|omega|exact Nat.le_refl _⟩,⟨rM HO_8.out⟩,⟨rM HO_9.out⟩,⟨rM HO_10.out⟩,⟨bM HB.out⟩⟩
      ·rw [if_neg c13] at H
       have c13b0 : (t287 == t285) = false := beq_eq_false_iff_ne.mpr c13
       have c13b1 : (t287 != t285) = true := bne_iff_ne.mpr c13
       (first|rw [c13b0]|(simp only [i64_w,i32_w];rw [c13b0])|rw [c13b1]|skip)
       have H' := Aside0.mk H
       clear H
       go_wp2
       go_meet
       case rel => exact ⟨_,(t287),(by first|rfl|(simp;done)|(simp [*];done)),H',⟨by have := HK1.out;first|omega|exact Nat.le_refl _⟩,⟨rM HO_8.out⟩,⟨rM HO_9.out⟩,⟨rM HO_10.out⟩,⟨bM HB.out⟩⟩
     case rest =>
      clear HC11
      try clear c1
      try clear c2
      try clear p2
      try clear q2
      try clear hx2
      try clear c3
      try clear c4
      try clear c6
      try clear c6b0
      try clear c7
      try clear c7b0
      try clear c13
      try clear c13b0
      try clear c13b1
      try clear hx284_0
      try clear hx286_0
      try clear hx288_0
      try clear p2
      try clear p284
      try clear p286
      try clear p288
      try clear q284
      try clear q286
      try clear q288
      obtain ⟨kq,x15_10,rfl,HA,HJ10,HO_8,HO_9,HO_10,HB⟩ := hcut
      cases kq with
     |zero => exact absurd HA.out (by simp [codesearchref25_Merge.j1])
     |succ kj10 =>
       have H := HA.out
       clear HA
       simp only [codesearchref25_Merge.j1] at H
       by_cases c14 : x15_10 = 0
       ·rw [if_pos c14] at H
        have c14b0 : (x15_10 == 0) = true := beq_iff_eq.mpr c14
        have c14b1 : (x15_10 != 0) = false := bne_eq_false_iff_eq.mpr c14
        clear c14
        by_cases c15 : t287 = t285
        ·rw [if_pos c15] at H
         have c15b0 : (t287 == t285) = true := beq_iff_eq.mpr c15
         have c15b1 : (t287 != t285) = false := bne_eq_false_iff_eq.mpr c15
         clear c15
         have H' := Aside0.mk H
         clear H
         go_wp2
         go_roundg kj10
         case measure => have := HK1.out;have := HJ10.out;omega
         case rel => exact ⟨(x8_1),(x9_1),(wrap64 (x11_1 + 1)),(by first|rfl|(simp;done)|(simp [*];done)),H',⟨by have := HK1.out;have := HJ10.out;omega⟩,⟨rM HO_8.out⟩,⟨rM HO_9.out⟩,⟨rM HO_10.out⟩,⟨bM HB.out⟩⟩
        ·rw [if_neg c15] at H
         have c15b0 : (t287 == t285) = false := beq_eq_false_iff_ne.mpr c15
         have c15b1 : (t287 != t285) = true := bne_iff_ne.mpr c15
         by_cases c16 : t289 = t285
         ·rw [if_pos c16] at H
          have c16b0 : (t289 == t285) = true := beq_iff_eq.mpr c16
          have c16b1 : (t289 != t285) = false := bne_eq_false_iff_eq.mpr c16
          clear c16
          have H' := Aside0.mk H
          clear H
          go_wp2
          go_roundg kj10
          case measure => have := HK1.out;have := HJ10.out;omega
          case rel => exact ⟨(x8_1),(x9_1),(wrap64 (x11_1 + 1)),(by first|rfl|(simp;done)|(simp [*];done)),H',⟨by have := HK1.out;have := HJ10.out;omega⟩,⟨rM HO_8.out⟩,⟨rM HO_9.out⟩,⟨rM HO_10.out⟩,⟨bM HB.out⟩⟩
         ·rw [if_neg c16] at H
          have c16b0 : (t289 == t285) = false := beq_eq_false_iff_ne.mpr c16
          have c16b1 : (t289 != t285) = true := bne_iff_ne.mpr c16
          by_cases c17 : t287 = t289
          ·rw [if_pos c17] at H
           have c17b0 : (t287 == t289) = true := beq_iff_eq.mpr c17
           have c17b1 : (t287 != t289) = false := bne_eq_false_iff_eq.mpr c17
           clear c17
           have H' := Aside0.mk H
           clear H
           go_wp2
           go_roundg kj10
           case measure => have := HK1.out;have := HJ10.out;omega
           case rel => exact ⟨(x8_1),(x9_1),(wrap64 (x11_1 + 1)),(by first|rfl|(simp;done)|(simp [*];done)),H',⟨by have := HK1.out;have := HJ10.out;omega⟩,⟨rM HO_8.out⟩,⟨rM HO_9.out⟩,⟨rM HO_10.out⟩,⟨bM HB.out⟩⟩
          ·rw [if_neg c17] at H
           have c17b0 : (t287 == t289) = false := beq_eq_false_iff_ne.mpr c17
           have c17b1 : (t287 != t289) = true := bne_iff_ne.mpr c17
           by_cases c18 : 0 ≤ x11_1
           ·rw [if_pos c18] at H
            have c18b0 : decide (0 ≤ x11_1) = true := decide_eq_true c18
            clear c18
            by_cases c19 : x11_1 < (t281.length : Int)
            ·rw [if_pos c19] at H
             have c19b0 : decide (x11_1 < (t281.length : Int)) = true := decide_eq_true c19
             clear c19
             by_cases c20 : x9_1.length < 8796093022208
             ·rw [if_pos c20] at H
              have LMc20 := Aside0.mk c20
              clear c20
              obtain ⟨y291,hy291⟩ : ∃ y_ : List ByteArray,y_ = (x9_1 ++ [rdOf ByteArray.empty t281 x11_1]) := ⟨_,rfl⟩
              replace H : (codesearchref25_Merge.l0 kj10 l0 l1 l2 x8_1 y291 t281 (wrap64 (x11_1 + 1))) = some (r1,r2) := by first|(rw [hy291];with_reducible exact H)|(have H2_ := (Option.bind_some _ _).symm.trans H;rw [hy291];with_reducible exact H2_)|(have H2_ := (Option.bind_some _ _).symm.trans H;with_reducible exact H2_)|with_reducible exact H|(rw [hy291];exact H)|exact H
              have Ny291 := Aside0.mk hy291
              clear hy291
              have H' := Aside0.mk H
              clear H
              have p290 : 0 ≤ (x11_1 : Int) := of_decide_eq_true (by first|(with_reducible assumption)|assumption)
              have q290 : x11_1 < (t281.length : Int) := of_decide_eq_true (by first|(with_reducible assumption)|assumption)
              obtain ⟨ad290,e290,hx290_0⟩ := Kd.at_string (Kd.R_reads' HO_10.out).2.2 x11_1 p290 q290
              obtain rfl : ad284 = ad290 := (by injection e290)
              replace p290 := eq_true p290
              replace q290 := eq_true q290
              go_wp2_with (first|((with_reducible refine gate_builtin (b := .append) (xs := #[.tmp 73,.tmp 78]) rfl ?_);at_builtin;refine Kd.R_append Kd.string (w0 := w) w.heap.size rfl (.tmp 73) (.tmp 78) 39 9 (.string ⟨#[]⟩) 16 rfl Tryd.underlying39 info9 rfl (by decide) (by omega) u9 x9_1 (rdOf ByteArray.empty t281 x11_1) [.string (rdOf ByteArray.empty t281 x11_1)] (fun k_ => some k_ ≠ (.slice (some ad284) t281.length co12 : Value).ownBlock) (fun _ => False) rfl rfl ?aP (fun _ hk => hk.elim) ?aF ?aO ?aB ?aS ?aL ?_;(case aP => exact rfl);(case aB => exact (bM HB.out));(case aF => exact (fun k_ hk => Kd.fresh' (Kd.R_lt (rM HO_10.out)) k_ hk));(case aO => exact (rM HO_9.out));(case aS => exact (below_size (bM HB.out)));(case aL => have := LMc20.out;omega);intro v292 w21 ho hb hg hat;rw [← Ny291.out] at ho;have n0_ := Aside0.mk (Kd.R_over' (rM HO_8.out) (Kd.R_typed (rM HO_9.out)) (by decide) hg);have n1_ := Aside0.mk (Kd.R_after (ok := (fun _ => True)) (by (with_reducible repeat (first|apply Kd.R_alloc|apply Kd.R_drewN|apply Kd.R_drew));exact Kd.R_mono HO_10.out (fun _ hk => ⟨trivial,hk⟩)) hg hat);have n2_ := Aside0.mk (hb);have n3_ := Aside0.mk (ho);clear HO_8;clear HO_10;clear HB;clear HO_9;have HO_8 := n0_;have HO_10 := n1_;have HB := n2_;have HO293 := n3_;clear n0_ n1_ n2_ n3_;clear ho hb hg hat))
              go_roundg kj10
              case measure => have := HK1.out;have := HJ10.out;omega
              case rel => exact ⟨(x8_1),(y291),(wrap64 (x11_1 + 1)),(by first|rfl|(simp;done)|(simp [*];done)),H',⟨by have := HK1.out;have := HJ10.out;omega⟩,⟨rM HO_8.out⟩,⟨rM HO293.out⟩,⟨by (with_reducible repeat (first|apply Kd.R_alloc|apply Kd.R_drewN|apply Kd.R_drew));exact Kd.R_mono HO_10.out (fun _ hk => hk.2)⟩,⟨bM HB.out⟩⟩
             ·rw [if_neg c20] at H
              exact absurd H (by simp)
            ·rw [if_neg c19] at H
             exact absurd H (by simp)
           ·rw [if_neg c18] at H
            exact absurd H (by simp)
       ·rw [if_neg c14] at H
        have c14b0 : (x15_10 == 0) = false := beq_eq_false_iff_ne.mpr c14
        have c14b1 : (x15_10 != 0) = true := bne_iff_ne.mpr c14
        by_cases c22 : 0 ≤ x11_1
        ·rw [if_pos c22] at H
         have c22b0 : decide (0 ≤ x11_1) = true := decide_eq_true c22
         clear c22
         by_cases c23 : x11_1 < (t281.length : Int)
         ·rw [if_pos c23] at H
          have c23b0 : decide (x11_1 < (t281.length : Int)) = true := decide_eq_true c23
          clear c23
          by_cases c24 : x8_1.length < 5864062014805
          ·rw [if_pos c24] at H
           have LMc24 := Aside0.mk c24
           clear c24
           obtain ⟨y295,hy295⟩ : ∃ y_ : List (S45),y_ = (x8_1 ++ [(⟨rdOf ByteArray.empty t281 x11_1,x15_10⟩ : S45)]) := ⟨_,rfl⟩
           replace H : (if t287 = t285 then (codesearchref25_Merge.l0 kj10 l0 l1 l2 y295 x9_1 t281 (wrap64 (x11_1 + 1))) else (if t289 = t285 then (codesearchref25_Merge.l0 kj10 l0 l1 l2 y295 x9_1 t281 (wrap64 (x11_1 + 1))) else (if t287 = t289 then (codesearchref25_Merge.l0 kj10 l0 l1 l2 y295 x9_1 t281 (wrap64 (x11_1 + 1))) else (if x9_1.length < 8796093022208 then (codesearchref25_Merge.l0 kj10 l0 l1 l2 y295 (x9_1 ++ [rdOf ByteArray.empty t281 x11_1]) t281 (wrap64 (x11_1 + 1))) else (none))))) = some (r1,r2) := by first|(rw [hy295];with_reducible exact H)|(have H2_ := (Option.bind_some _ _).symm.trans H;rw [hy295];with_reducible exact H2_)|(have H2_ := (Option.bind_some _ _).symm.trans H;with_reducible exact H2_)|with_reducible exact H|(rw [hy295];exact H)|exact H
           have Ny295 := Aside0.mk hy295
           clear hy295
           by_cases c25 : t287 = t285
           ·rw [if_pos c25] at H
            have c25b0 : (t287 == t285) = true := beq_iff_eq.mpr c25
            have c25b1 : (t287 != t285) = false := bne_eq_false_iff_eq.mpr c25
            clear c25
            have H' := Aside0.mk H
            clear H
            have p294 : 0 ≤ (x11_1 : Int) := of_decide_eq_true (by first|(with_reducible assumption)|assumption)
            have q294 : x11_1 < (t281.length : Int) := of_decide_eq_true (by first|(with_reducible assumption)|assumption)
            obtain ⟨ad294,e294,hx294_0⟩ := Kd.at_string (Kd.R_reads' HO_10.out).2.2 x11_1 p294 q294
            obtain rfl : ad284 = ad294 := (by injection e294)
            replace p294 := eq_true p294
            replace q294 := eq_true q294
            go_wp2_with (first|((with_reducible refine gate_builtin (b := .append) (xs := #[.tmp 51,.tmp 58]) rfl ?_);at_builtin;refine Kd.R_append k45 (w0 := w) w.heap.size rfl (.tmp 51) (.tmp 58) 22 45 (.agg #[(.string ⟨#[]⟩),(.int .i64 0)]) 24 rfl Tryd.underlying22 info45 rfl (by decide) (by omega) u8 x8_1 (⟨rdOf ByteArray.empty t281 x11_1,x15_10⟩ : S45) [.string (rdOf ByteArray.empty t281 x11_1),.int .i64 x15_10] (fun _ => True) (fun _ => False) rfl rfl ?aP (fun _ hk => hk.elim) ?aF ?aO ?aB ?aS ?aL ?_;(case aP => exact k45_mkM _ _ _ (⟨rdOf ByteArray.empty t281 x11_1,x15_10⟩ : S45));(case aB => exact (bM HB.out));(case aF => exact (fun _ _ => trivial));(case aO => exact (rM HO_8.out));(case aS => exact (below_size (bM HB.out)));(case aL => have := LMc24.out;omega);intro v296 w26 ho hb hg hat;rw [← Ny295.out] at ho;have n0_ := Aside0.mk (Kd.R_over' (rM HO_9.out) (Kd.R_typed (rM HO_8.out)) (by decide) hg);have n1_ := Aside0.mk (Kd.R_over' (rM HO_10.out) (Kd.R_typed (rM HO_8.out)) (by decide) hg);have n2_ := Aside0.mk (hb);have n3_ := Aside0.mk (ho);clear HO_9;clear HO_10;clear HB;clear HO_8;have HO_9 := n0_;have HO_10 := n1_;have HB := n2_;have HO297 := n3_;clear n0_ n1_ n2_ n3_;clear ho hb hg hat))
            go_roundg kj10
            case measure => have := HK1.out;have := HJ10.out;omega
            case rel => exact ⟨(y295),(x9_1),(wrap64 (x11_1 + 1)),(by first|rfl|(simp;done)|(simp [*];done)),H',⟨by have := HK1.out;have := HJ10.out;omega⟩,⟨rM HO297.out⟩,⟨rM HO_9.out⟩,⟨rM HO_10.out⟩,⟨bM HB.out⟩⟩
           ·rw [if_neg c25] at H
            have c25b0 : (t287 == t285) = false := beq_eq_false_iff_ne.mpr c25
            have c25b1 : (t287 != t285) = true := bne_iff_ne.mpr c25
            by_cases c27 : t289 = t285
            ·rw [if_pos c27] at H
             have c27b0 : (t289 == t285) = true := beq_iff_eq.mpr c27
             have c27b1 : (t289 != t285) = false := bne_eq_false_iff_eq.mpr c27
             clear c27
             have H' := Aside0.mk H
             clear H
             have p294 : 0 ≤ (x11_1 : Int) := of_decide_eq_true (by first|(with_reducible assumption)|assumption)
             have q294 : x11_1 < (t281.length : Int) := of_decide_eq_true (by first|(with_reducible assumption)|assumption)
             obtain ⟨ad294,e294,hx294_0⟩ := Kd.at_string (Kd.R_reads' HO_10.out).2.2 x11_1 p294 q294
             obtain rfl : ad284 = ad294 := (by injection e294)
             replace p294 := eq_true p294
             replace q294 := eq_true q294
             go_wp2_with (first|((with_reducible refine gate_builtin (b := .append) (xs := #[.tmp 51,.tmp 58]) rfl ?_);at_builtin;refine Kd.R_append k45 (w0 := w) w.heap.size rfl (.tmp 51) (.tmp 58) 22 45 (.agg #[(.string ⟨#[]⟩),(.int .i64 0)]) 24 rfl Tryd.underlying22 info45 rfl (by decide) (by omega) u8 x8_1 (⟨rdOf ByteArray.empty t281 x11_1,x15_10⟩ : S45) [.string (rdOf ByteArray.empty t281 x11_1),.int .i64 x15_10] (fun _ => True) (fun _ => False) rfl rfl ?aP (fun _ hk => hk.elim) ?aF ?aO ?aB ?aS ?aL ?_;(case aP => exact k45_mkM _ _ _ (⟨rdOf ByteArray.empty t281 x11_1,x15_10⟩ : S45));(case aB => exact (bM HB.out));(case aF => exact (fun _ _ => trivial));(case aO => exact (rM HO_8.out));(case aS => exact (below_size (bM HB.out)));(case aL => have := LMc24.out;omega);intro v296 w28 ho hb hg hat;rw [← Ny295.out] at ho;have n0_ := Aside0.mk (Kd.R_over' (rM HO_9.out) (Kd.R_typed (rM HO_8.out)) (by decide) hg);have n1_ := Aside0.mk (Kd.R_over' (rM HO_10.out) (Kd.R_typed (rM HO_8.out)) (by decide) hg);have n2_ := Aside0.mk (hb);have n3_ := Aside0.mk (ho);clear HO_9;clear HO_10;clear HB;clear HO_8;have HO_9 := n0_;have HO_10 := n1_;have HB := n2_;have HO297 := n3_;clear n0_ n1_ n2_ n3_;clear ho hb hg hat))
             go_roundg kj10
             case measure => have := HK1.out;have := HJ10.out;omega
             case rel => exact ⟨(y295),(x9_1),(wrap64 (x11_1 + 1)),(by first|rfl|(simp;done)|(simp [*];done)),H',⟨by have := HK1.out;have := HJ10.out;omega⟩,⟨rM HO297.out⟩,⟨rM HO_9.out⟩,⟨rM HO_10.out⟩,⟨bM HB.out⟩⟩
            ·rw [if_neg c27] at H
             have c27b0 : (t289 == t285) = false := beq_eq_false_iff_ne.mpr c27
             have c27b1 : (t289 != t285) = true := bne_iff_ne.mpr c27
             by_cases c29 : t287 = t289
             ·rw [if_pos c29] at H
              have c29b0 : (t287 == t289) = true := beq_iff_eq.mpr c29
              have c29b1 : (t287 != t289) = false := bne_eq_false_iff_eq.mpr c29
              clear c29
              have H' := Aside0.mk H
              clear H
              have p294 : 0 ≤ (x11_1 : Int) := of_decide_eq_true (by first|(with_reducible assumption)|assumption)
              have q294 : x11_1 < (t281.length : Int) := of_decide_eq_true (by first|(with_reducible assumption)|assumption)
              obtain ⟨ad294,e294,hx294_0⟩ := Kd.at_string (Kd.R_reads' HO_10.out).2.2 x11_1 p294 q294
              obtain rfl : ad284 = ad294 := (by injection e294)
              replace p294 := eq_true p294
              replace q294 := eq_true q294
              go_wp2_with (first|((with_reducible refine gate_builtin (b := .append) (xs := #[.tmp 51,.tmp 58]) rfl ?_);at_builtin;refine Kd.R_append k45 (w0 := w) w.heap.size rfl (.tmp 51) (.tmp 58) 22 45 (.agg #[(.string ⟨#[]⟩),(.int .i64 0)]) 24 rfl Tryd.underlying22 info45 rfl (by decide) (by omega) u8 x8_1 (⟨rdOf ByteArray.empty t281 x11_1,x15_10⟩ : S45) [.string (rdOf ByteArray.empty t281 x11_1),.int .i64 x15_10] (fun _ => True) (fun _ => False) rfl rfl ?aP (fun _ hk => hk.elim) ?aF ?aO ?aB ?aS ?aL ?_;(case aP => exact k45_mkM _ _ _ (⟨rdOf ByteArray.empty t281 x11_1,x15_10⟩ : S45));(case aB => exact (bM HB.out));(case aF => exact (fun _ _ => trivial));(case aO => exact (rM HO_8.out));(case aS => exact (below_size (bM HB.out)));(case aL => have := LMc24.out;omega);intro v296 w30 ho hb hg hat;rw [← Ny295.out] at ho;have n0_ := Aside0.mk (Kd.R_over' (rM HO_9.out) (Kd.R_typed (rM HO_8.out)) (by decide) hg);have n1_ := Aside0.mk (Kd.R_over' (rM HO_10.out) (Kd.R_typed (rM HO_8.out)) (by decide) hg);have n2_ := Aside0.mk (hb);have n3_ := Aside0.mk (ho);clear HO_9;clear HO_10;clear HB;clear HO_8;have HO_9 := n0_;have HO_10 := n1_;have HB := n2_;have HO297 := n3_;clear n0_ n1_ n2_ n3_;clear ho hb hg hat))
              go_roundg kj10
              case measure => have := HK1.out;have := HJ10.out;omega
              case rel => exact ⟨(y295),(x9_1),(wrap64 (x11_1 + 1)),(by first|rfl|(simp;done)|(simp [*];done)),H',⟨by have := HK1.out;have := HJ10.out;omega⟩,⟨rM HO297.out⟩,⟨rM HO_9.out⟩,⟨rM HO_10.out⟩,⟨bM HB.out⟩⟩
             ·rw [if_neg c29] at H
              have c29b0 : (t287 == t289) = false := beq_eq_false_iff_ne.mpr c29
              have c29b1 : (t287 != t289) = true := bne_iff_ne.mpr c29
              by_cases c31 : x9_1.length < 8796093022208
              ·rw [if_pos c31] at H
               have LMc31 := Aside0.mk c31
               clear c31
               obtain ⟨y299,hy299⟩ : ∃ y_ : List ByteArray,y_ = (x9_1 ++ [rdOf ByteArray.empty t281 x11_1]) := ⟨_,rfl⟩
               replace H : (codesearchref25_Merge.l0 kj10 l0 l1 l2 y295 y299 t281 (wrap64 (x11_1 + 1))) = some (r1,r2) := by first|(rw [hy299];with_reducible exact H)|(have H2_ := (Option.bind_some _ _).symm.trans H;rw [hy299];with_reducible exact H2_)|(have H2_ := (Option.bind_some _ _).symm.trans H;with_reducible exact H2_)|with_reducible exact H|(rw [hy299];exact H)|exact H
               have Ny299 := Aside0.mk hy299
               clear hy299
               have H' := Aside0.mk H
               clear H
               have p294 : 0 ≤ (x11_1 : Int) := of_decide_eq_true (by first|(with_reducible assumption)|assumption)
               have q294 : x11_1 < (t281.length : Int) := of_decide_eq_true (by first|(with_reducible assumption)|assumption)
               obtain ⟨ad294,e294,hx294_0⟩ := Kd.at_string (Kd.R_reads' HO_10.out).2.2 x11_1 p294 q294
               obtain rfl : ad284 = ad294 := (by injection e294)
               replace p294 := eq_true p294
               replace q294 := eq_true q294
               go_wp2_with (first|((with_reducible refine gate_builtin (b := .append) (xs := #[.tmp 51,.tmp 58]) rfl ?_);at_builtin;refine Kd.R_append k45 (w0 := w) w.heap.size rfl (.tmp 51) (.tmp 58) 22 45 (.agg #[(.string ⟨#[]⟩),(.int .i64 0)]) 24 rfl Tryd.underlying22 info45 rfl (by decide) (by omega) u8 x8_1 (⟨rdOf ByteArray.empty t281 x11_1,x15_10⟩ : S45) [.string (rdOf ByteArray.empty t281 x11_1),.int .i64 x15_10] (fun _ => True) (fun _ => False) rfl rfl ?aP (fun _ hk => hk.elim) ?aF ?aO ?aB ?aS ?aL ?_;(case aP => exact k45_mkM _ _ _ (⟨rdOf ByteArray.empty t281 x11_1,x15_10⟩ : S45));(case aB => exact (bM HB.out));(case aF => exact (fun _ _ => trivial));(case aO => exact (rM HO_8.out));(case aS => exact (below_size (bM HB.out)));(case aL => have := LMc24.out;omega);intro v296 w32 ho hb hg hat;rw [← Ny295.out] at ho;have n0_ := Aside0.mk (Kd.R_over' (rM HO_9.out) (Kd.R_typed (rM HO_8.out)) (by decide) hg);have n1_ := Aside0.mk (Kd.R_over' (rM HO_10.out) (Kd.R_typed (rM HO_8.out)) (by decide) hg);have n2_ := Aside0.mk (hb);have n3_ := Aside0.mk (ho);clear HO_9;clear HO_10;clear HB;clear HO_8;have HO_9 := n0_;have HO_10 := n1_;have HB := n2_;have HO297 := n3_;clear n0_ n1_ n2_ n3_;clear ho hb hg hat;have p298 : 0 ≤ (x11_1 : Int) := of_decide_eq_true (by first|(with_reducible assumption)|assumption);have q298 : x11_1 < (t281.length : Int) := of_decide_eq_true (by first|(with_reducible assumption)|assumption);obtain ⟨ad298,e298,hx298_0⟩ := Kd.at_string (Kd.R_reads' HO_10.out).2.2 x11_1 p298 q298;obtain rfl : ad284 = ad298 := (by injection e298);replace p298 := eq_true p298;replace q298 := eq_true q298)|((with_reducible refine gate_builtin (b := .append) (xs := #[.tmp 73,.tmp 78]) rfl ?_);at_builtin;refine Kd.R_append Kd.string (w0 := w) w.heap.size rfl (.tmp 73) (.tmp 78) 39 9 (.string ⟨#[]⟩) 16 rfl Tryd.underlying39 info9 rfl (by decide) (by omega) u9 x9_1 (rdOf ByteArray.empty t281 x11_1) [.string (rdOf ByteArray.empty t281 x11_1)] (fun k_ => some k_ ≠ (.slice (some ad284) t281.length co12 : Value).ownBlock) (fun _ => False) rfl rfl ?aP (fun _ hk => hk.elim) ?aF ?aO ?aB ?aS ?aL ?_;(case aP => exact rfl);(case aB => exact (bM HB.out));(case aF => exact (fun k_ hk => Kd.fresh' (Kd.R_lt (rM HO_10.out)) k_ hk));(case aO => exact (rM HO_9.out));(case aS => exact (below_size (bM HB.out)));(case aL => have := LMc31.out;omega);intro v300 w33 ho hb hg hat;rw [← Ny299.out] at ho;have n0_ := Aside0.mk (Kd.R_after (ok := (fun _ => True)) (by (with_reducible repeat (first|apply Kd.R_alloc|apply Kd.R_drewN|apply Kd.R_drew));exact Kd.R_mono HO_10.out (fun _ hk => ⟨trivial,hk⟩)) hg hat);have n1_ := Aside0.mk (Kd.R_over' (rM HO297.out) (Kd.R_typed (rM HO_9.out)) (by decide) hg);have n2_ := Aside0.mk (hb);have n3_ := Aside0.mk (ho);clear HO_10;clear HO297;clear HB;clear HO_9;have HO_10 := n0_;have HO297 := n1_;have HB := n2_;have HO301 := n3_;clear n0_ n1_ n2_ n3_;clear ho hb hg hat))
               go_roundg kj10
               case measure => have := HK1.out;have := HJ10.out;omega
               case rel => exact ⟨(y295),(y299),(wrap64 (x11_1 + 1)),(by first|rfl|(simp;done)|(simp [*];done)),H',⟨by have := HK1.out;have := HJ10.out;omega⟩,⟨rM HO297.out⟩,⟨rM HO301.out⟩,⟨by (with_reducible repeat (first|apply Kd.R_alloc|apply Kd.R_drewN|apply Kd.R_drew));exact Kd.R_mono HO_10.out (fun _ hk => hk.2)⟩,⟨bM HB.out⟩⟩
              ·rw [if_neg c31] at H
               exact absurd H (by simp)
          ·rw [if_neg c24] at H
           exact absurd H (by simp)
         ·rw [if_neg c23] at H
          exact absurd H (by simp)
        ·rw [if_neg c22] at H
         exact absurd H (by simp)
    ·rw [if_neg c7] at H
     exact absurd H (by simp)
   ·rw [if_neg c6] at H
    have c6b0 : decide (x11_1 < (t281.length : Int)) = false := decide_eq_false c6
    clear c6
    simp only [Option.some.injEq,Prod.mk.injEq] at H
    obtain ⟨rfl,rfl⟩ := H
    obtain ⟨Ao34,co34,eo34⟩ := Kd.R_slice HO_10.out
    subst eo34
    go_wp2
    go_ret2
    exact ⟨_,_,by first|rfl|(simp [errW_none,errW_some] <;> rfl)|(simp [*,errW_none,errW_some] <;> rfl),rM HO_8.out,rM (Kd.R_mono HO_9.out (fun _ hk => trivial)),bM HB.out⟩

/-! ### codesearchlaw25_TreeMergeds: function 7 -/
def codesearchlaw25_TreeMergeds.j0 : Nat → List (S45) → List (S45) → List (S45) → Bool → Option (Bool)
|0,_,_,_,_ => none
|k + 1,x0,x1,x2,x32 => if x32 = true then (some true) else ((tree_Merge.f x0 x1 x2).bind fun bt304 => ((codesearchref25_Merge.f k x0 x1 x2).bind fun bt310 => ((codesearchref25_Files.f k bt304.1 bt310.1).bind fun t316 => (if t316 = true then ((codesearchref01_Strings.f k bt304.2 bt310.2).bind fun t317 => (some t317)) else (some false)))))
def codesearchlaw25_TreeMergeds.f (k : Nat) (l0 : List (S45)) (l1 : List (S45)) (l2 : List (S45)) : Option (Bool) := (codesearchlaw25_alive.f k).bind fun t302 => (if t302 = true then (if (l0.length : Int) > 60 then (codesearchlaw25_TreeMergeds.j0 k l0 l1 l2 true) else (if (l1.length : Int) > 60 then (codesearchlaw25_TreeMergeds.j0 k l0 l1 l2 true) else (if (l2.length : Int) > 60 then (codesearchlaw25_TreeMergeds.j0 k l0 l1 l2 true) else ((codesearchlaw25_trees.f k l0 l1 l2).bind fun t303 => (codesearchlaw25_TreeMergeds.j0 k l0 l1 l2 (!t303)))))) else (some false))
theorem codesearchlaw25_TreeMergeds.mono_l : ∀ k, (∀ y0 y1 y2 y3, LeO (codesearchlaw25_TreeMergeds.j0 k y0 y1 y2 y3) (codesearchlaw25_TreeMergeds.j0 (k + 1) y0 y1 y2 y3))
|0 => fun _ _ _ _ r h => by simp [codesearchlaw25_TreeMergeds.j0] at h
|k + 1 => by
  have ih0 := codesearchlaw25_TreeMergeds.mono_l k
  ·intro y0 y1 y2 y3
   unfold codesearchlaw25_TreeMergeds.j0
   repeat' first
  |(with_reducible exact ih0 _ _ _ _)
  |(with_reducible exact codesearchlaw25_alive.mono _)
  |(with_reducible exact codesearchlaw25_trees.mono _ _ _ _)
  |(with_reducible exact codesearchref01_Strings.mono _ _ _)
  |(with_reducible exact codesearchref25_Files.mono _ _ _)
  |(with_reducible exact codesearchref25_Merge.mono _ _ _ _)
  |(with_reducible exact LeO.refl _)
  |(with_reducible exact LeO.none _)
  |(with_reducible refine LeO.ite ?_ ?_)
  |(with_reducible refine LeO.bind ?_ (fun _ => ?_))
  |exact ih0 _ _ _ _
  |exact codesearchlaw25_alive.mono _
  |exact codesearchlaw25_trees.mono _ _ _ _
  |exact codesearchref01_Strings.mono _ _ _
  |exact codesearchref25_Files.mono _ _ _
  |exact codesearchref25_Merge.mono _ _ _ _
  |exact LeO.none _
  |refine LeO.ite ?_ ?_
  |refine LeO.bind ?_ (fun _ => ?_)
theorem codesearchlaw25_TreeMergeds.mono : ∀ a0 a1 a2 k, LeO (codesearchlaw25_TreeMergeds.f k a0 a1 a2) (codesearchlaw25_TreeMergeds.f (k + 1) a0 a1 a2) := by
 intro a0 a1 a2 k
 have ih0 := codesearchlaw25_TreeMergeds.mono_l k
 unfold codesearchlaw25_TreeMergeds.f
 repeat' first
  |(with_reducible exact ih0 _ _ _ _)
  |(with_reducible exact codesearchlaw25_alive.mono _)
  |(with_reducible exact codesearchlaw25_trees.mono _ _ _ _)
  |(with_reducible exact codesearchref01_Strings.mono _ _ _)
  |(with_reducible exact codesearchref25_Files.mono _ _ _)
  |(with_reducible exact codesearchref25_Merge.mono _ _ _ _)
  |(with_reducible exact LeO.refl _)
  |(with_reducible exact LeO.none _)
  |(with_reducible refine LeO.ite ?_ ?_)
  |(with_reducible refine LeO.bind ?_ (fun _ => ?_))
  |exact ih0 _ _ _ _
  |exact codesearchlaw25_alive.mono _
  |exact codesearchlaw25_trees.mono _ _ _ _
  |exact codesearchref01_Strings.mono _ _ _
  |exact codesearchref25_Files.mono _ _ _
  |exact codesearchref25_Merge.mono _ _ _ _
  |exact LeO.none _
  |refine LeO.ite ?_ ?_
  |refine LeO.bind ?_ (fun _ => ?_)
set_option maxHeartbeats 4000000 in
set_option maxRecDepth 100000 in
theorem codesearchlaw25_TreeMergeds.calls (k : Nat) (A0 : Option Addr) (c0 : Nat) (l0 : List (S45)) (A1 : Option Addr) (c1 : Nat) (l1 : List (S45)) (A2 : Option Addr) (c2 : Nat) (l2 : List (S45)) (r : Bool) (w : World) (hr0 : Kd.C k45 w A0 l0.length l0) (hc0 : l0.length ≤ c0) (hr1 : Kd.C k45 w A1 l1.length l1) (hc1 : l1.length ≤ c1) (hr2 : Kd.C k45 w A2 l2.length l2) (hc2 : l2.length ≤ c2) (h : codesearchlaw25_TreeMergeds.f k l0 l1 l2 = some r) :
  Calls Tryd.prog 7 #[.slice A0 l0.length c0,.slice A1 l1.length c1,.slice A2 l2.length c2] w fun e w' => e = .returned (.bool r) ∧ Below w.heap.size w w' := by
 have HR0 := Aside0.mk hr0
 have HC0 := Aside0.mk hc0
 clear hr0 hc0
 have HR1 := Aside0.mk hr1
 have HC1 := Aside0.mk hc1
 clear hr1 hc1
 have HR2 := Aside0.mk hr2
 have HC2 := Aside0.mk hc2
 clear hr2 hc2
 have HB := Aside0.mk (Below.refl w.heap.size w)
 have H : ((codesearchlaw25_alive.f k).bind fun t302 => (if t302 = true then (if (l0.length : Int) > 60 then (codesearchlaw25_TreeMergeds.j0 k l0 l1 l2 true) else (if (l1.length : Int) > 60 then (codesearchlaw25_TreeMergeds.j0 k l0 l1 l2 true) else (if (l2.length : Int) > 60 then (codesearchlaw25_TreeMergeds.j0 k l0 l1 l2 true) else ((codesearchlaw25_trees.f k l0 l1 l2).bind fun t303 => (codesearchlaw25_TreeMergeds.j0 k l0 l1 l2 (!t303)))))) else (some false))) = some r := h
 clear h
 replace H := Option.bind_eq_some_iff.mp H
 obtain ⟨t302,A40,H⟩ := H
 replace H : (if t302 = true then (if (l0.length : Int) > 60 then (codesearchlaw25_TreeMergeds.j0 k l0 l1 l2 true) else (if (l1.length : Int) > 60 then (codesearchlaw25_TreeMergeds.j0 k l0 l1 l2 true) else (if (l2.length : Int) > 60 then (codesearchlaw25_TreeMergeds.j0 k l0 l1 l2 true) else ((codesearchlaw25_trees.f k l0 l1 l2).bind fun t303 => (codesearchlaw25_TreeMergeds.j0 k l0 l1 l2 (!t303)))))) else (some false)) = some r := H
 have A4 := Aside0.mk A40
 clear A40
 by_cases c5 : t302 = true
 ·subst c5
  have H1 : (if (l0.length : Int) > 60 then (codesearchlaw25_TreeMergeds.j0 k l0 l1 l2 true) else (if (l1.length : Int) > 60 then (codesearchlaw25_TreeMergeds.j0 k l0 l1 l2 true) else (if (l2.length : Int) > 60 then (codesearchlaw25_TreeMergeds.j0 k l0 l1 l2 true) else ((codesearchlaw25_trees.f k l0 l1 l2).bind fun t303 => (codesearchlaw25_TreeMergeds.j0 k l0 l1 l2 (!t303)))))) = some r := by rw [if_pos rfl] at H;exact H
  clear H
  have H := H1
  clear H1
  have HC6 := Aside0.mk H
  clear H
  go_enter Tryd.func7,Tryd.ntmps7
  go_upto_region 3 with (first|((with_reducible refine gate_callee (f := 11) rfl ?_);refine goesL_ (some 11) rfl rfl Tryd.func11 (by kernel_rfl) rfl #[] rfl (by (try simp only [List.map_toArray,List.map_cons,List.map_nil]);first|done|rfl|(simp only [List.length_drop,List.length_take];rfl)) ?_;(with_reducible refine (codesearchlaw25_alive.calls k  true _ A4.out).mono ?_);rintro e w7 ⟨rfl,hb⟩;refine ⟨_,rfl,?_⟩;have n0_ := Aside0.mk (below_step (bM HB.out) hb);clear HB;have HB := n0_;clear n0_;(try clear hb);(try clear hb2);(try clear hk);(try clear hi)))
  (try simp only [Act.put,List.setIfInBounds_toArray,List.set_cons_zero,List.set_cons_succ])
  go_cut [32] (fun v32 wc => ∃ (kq : Nat) (x32_5 : Bool),v32 = .bool x32_5 ∧ Aside0 (codesearchlaw25_TreeMergeds.j0 kq l0 l1 l2 x32_5 = some r) ∧ Aside0 (kq ≤ k) ∧ Aside0 (Below w.heap.size w wc))
  case first =>
   have H := HC6.out
   clear HC6
   by_cases c8 : (l0.length : Int) > 60
   ·rw [if_pos c8] at H
    have c8b0 : decide (60 < (l0.length : Int)) = true := decide_eq_true c8
    have c8b1 : decide (60 < l0.length) = true := decide_eq_true (by omega)
    clear c8
    (first|rw [c8b0]|(simp only [i64_w,i32_w];rw [c8b0])|rw [c8b1]|skip)
    have H' := Aside0.mk H
    clear H
    go_wp2
    go_meet
    case rel => exact ⟨_,(true),(by first|rfl|(simp;done)|(simp [*];done)),H',⟨by first|omega|exact Nat.le_refl _⟩,⟨bM HB.out⟩⟩
   ·rw [if_neg c8] at H
    have c8b0 : decide (60 < (l0.length : Int)) = false := decide_eq_false c8
    have c8b1 : decide (60 < l0.length) = false := decide_eq_false (by omega)
    clear c8
    (first|rw [c8b0]|(simp only [i64_w,i32_w];rw [c8b0])|rw [c8b1]|skip)
    by_cases c9 : (l1.length : Int) > 60
    ·rw [if_pos c9] at H
     have c9b0 : decide (60 < (l1.length : Int)) = true := decide_eq_true c9
     have c9b1 : decide (60 < l1.length) = true := decide_eq_true (by omega)
     clear c9
     have H' := Aside0.mk H
     clear H
     go_wp2
     go_meet
     case rel => exact ⟨_,(true),(by first|rfl|(simp;done)|(simp [*];done)),H',⟨by first|omega|exact Nat.le_refl _⟩,⟨bM HB.out⟩⟩
    ·rw [if_neg c9] at H
     have c9b0 : decide (60 < (l1.length : Int)) = false := decide_eq_false c9
     have c9b1 : decide (60 < l1.length) = false := decide_eq_false (by omega)
     clear c9
     by_cases c10 : (l2.length : Int) > 60
     ·rw [if_pos c10] at H
      have c10b0 : decide (60 < (l2.length : Int)) = true := decide_eq_true c10
      have c10b1 : decide (60 < l2.length) = true := decide_eq_true (by omega)
      clear c10
      have H' := Aside0.mk H
      clear H
      go_wp2
      go_meet
      case rel => exact ⟨_,(true),(by first|rfl|(simp;done)|(simp [*];done)),H',⟨by first|omega|exact Nat.le_refl _⟩,⟨bM HB.out⟩⟩
     ·rw [if_neg c10] at H
      have c10b0 : decide (60 < (l2.length : Int)) = false := decide_eq_false c10
      have c10b1 : decide (60 < l2.length) = false := decide_eq_false (by omega)
      clear c10
      replace H := Option.bind_eq_some_iff.mp H
      obtain ⟨t303,A110,H⟩ := H
      replace H : (codesearchlaw25_TreeMergeds.j0 k l0 l1 l2 (!t303)) = some r := H
      have A11 := Aside0.mk A110
      clear A110
      have H' := Aside0.mk H
      clear H
      go_wp2_with (first|(go_at_call 19;(with_reducible refine (codesearchlaw25_trees.calls k _ _ l0 _ _ l1 _ _ l2 t303 _ ?side1 ?side2 ?side3 ?side4 ?side5 ?side6 A11.out).mono ?_);(case side1 => exact cM (Kd.C_below HR0.out HB.out));(case side2 => exact HC0.out);(case side3 => exact cM (Kd.C_below HR1.out HB.out));(case side4 => exact HC1.out);(case side5 => exact cM (Kd.C_below HR2.out HB.out));(case side6 => exact HC2.out);rintro e w' ⟨rfl,⟨nd,rfl⟩⟩))
      go_meet
      case rel => exact ⟨_,(!t303),(by first|rfl|(simp;done)|(simp [*];done)),H',⟨by first|omega|exact Nat.le_refl _⟩,⟨bM HB.out⟩⟩
  case rest =>
   clear HC6
   try clear c1
   try clear c2
   try clear p2
   try clear c5
   try clear c7
   try clear c8
   try clear c8b0
   try clear c8b1
   try clear c9
   try clear c9b0
   try clear c9b1
   try clear c10
   try clear c10b0
   try clear c10b1
   try clear c11
   obtain ⟨kq,x32_5,rfl,HA,HJ5,HB⟩ := hcut
   cases kq with
  |zero => exact absurd HA.out (by simp [codesearchlaw25_TreeMergeds.j0])
  |succ kj5 =>
    have H := HA.out
    clear HA
    simp only [codesearchlaw25_TreeMergeds.j0] at H
    by_cases c12 : x32_5 = true
    ·subst c12
     have H1 : (some true) = some r := by rw [if_pos rfl] at H;exact H
     clear H
     have H := H1
     clear H1
     obtain rfl := Option.some.inj H
     go_wp2
     go_ret
     exact ⟨by first|rfl|(simp [errW_none,errW_some] <;> rfl)|(simp [*,errW_none,errW_some] <;> rfl),bM HB.out⟩
    ·replace c12 := Bool.eq_false_iff.mpr c12
     subst c12
     have H1 : ((tree_Merge.f l0 l1 l2).bind fun bt304 => ((codesearchref25_Merge.f kj5 l0 l1 l2).bind fun bt310 => ((codesearchref25_Files.f kj5 bt304.1 bt310.1).bind fun t316 => (if t316 = true then ((codesearchref01_Strings.f kj5 bt304.2 bt310.2).bind fun t317 => (some t317)) else (some false))))) = some r := by rw [if_neg (show ¬ (false = true) by decide)] at H;exact H
     clear H
     have H := H1
     clear H1
     replace H := Option.bind_eq_some_iff.mp H
     obtain ⟨⟨t304,t305⟩,A130,H⟩ := H
     replace H : ((codesearchref25_Merge.f kj5 l0 l1 l2).bind fun bt310 => ((codesearchref25_Files.f kj5 t304 bt310.1).bind fun t316 => (if t316 = true then ((codesearchref01_Strings.f kj5 t305 bt310.2).bind fun t317 => (some t317)) else (some false)))) = some r := H
     have A13 := Aside0.mk A130
     clear A130
     replace H := Option.bind_eq_some_iff.mp H
     obtain ⟨⟨t310,t311⟩,A140,H⟩ := H
     replace H : ((codesearchref25_Files.f kj5 t304 t310).bind fun t316 => (if t316 = true then ((codesearchref01_Strings.f kj5 t305 t311).bind fun t317 => (some t317)) else (some false))) = some r := H
     have A14 := Aside0.mk A140
     clear A140
     replace H := Option.bind_eq_some_iff.mp H
     obtain ⟨t316,A150,H⟩ := H
     replace H : (if t316 = true then ((codesearchref01_Strings.f kj5 t305 t311).bind fun t317 => (some t317)) else (some false)) = some r := H
     have A15 := Aside0.mk A150
     clear A150
     by_cases c16 : t316 = true
     ·subst c16
      have H1 : ((codesearchref01_Strings.f kj5 t305 t311).bind fun t317 => (some t317)) = some r := by rw [if_pos rfl] at H;exact H
      clear H
      have H := H1
      clear H1
      replace H := Option.bind_eq_some_iff.mp H
      obtain ⟨t317,A170,H⟩ := H
      replace H : (some t317) = some r := H
      have A17 := Aside0.mk A170
      clear A170
      obtain rfl := Option.some.inj H
      go_wp2_with (first|((with_reducible refine gate_callee (f := 28) rfl ?_);refine goesL_ (some 37) rfl rfl Tryd.func28 (by kernel_rfl) rfl #[.slice A0 l0.length c0,.slice A1 l1.length c1,.slice A2 l2.length c2] rfl (by (try simp only [List.map_toArray,List.map_cons,List.map_nil]);first|done|rfl|(simp only [List.length_drop,List.length_take];rfl)) ?_;(with_reducible refine (tree_Merge.calls _ _ l0 _ _ l1 _ _ l2 t304 t305 _ ?side1 ?side2 ?side3 ?side4 ?side5 ?side6 A13.out).mono ?_);(case side1 => exact cM (Kd.C_below HR0.out HB.out));(case side2 => exact HC0.out);(case side3 => exact cM (Kd.C_below HR1.out HB.out));(case side4 => exact HC1.out);(case side5 => exact cM (Kd.C_below HR2.out HB.out));(case side6 => exact HC2.out);rintro e w18 ⟨v306,v308,rfl,ho0,ho1,hb⟩;refine ⟨_,rfl,?_⟩;have n0_ := Aside0.mk (Kd.R_lower ho0 (below_size (bM HB.out)));have n1_ := Aside0.mk (Kd.R_lower ho1 (below_size (bM HB.out)));have n2_ := Aside0.mk (below_step (bM HB.out) hb);clear HB;have HO307 := n0_;have HO309 := n1_;have HB := n2_;clear n0_ n1_ n2_;(try clear hb);(try clear hb2);(try clear hk);(try clear hi);(try clear ho0);(try clear ho1))|((with_reducible refine gate_callee (f := 29) rfl ?_);refine goesL_ (some 44) rfl rfl Tryd.func29 (by kernel_rfl) rfl #[.slice A0 l0.length c0,.slice A1 l1.length c1,.slice A2 l2.length c2] rfl (by (try simp only [List.map_toArray,List.map_cons,List.map_nil]);first|done|rfl|(simp only [List.length_drop,List.length_take];rfl)) ?_;(with_reducible refine (codesearchref25_Merge.calls kj5 _ _ l0 _ _ l1 _ _ l2 t310 t311 _ ?side1 ?side2 ?side3 ?side4 ?side5 ?side6 A14.out).mono ?_);(case side1 => exact cM (Kd.C_below HR0.out HB.out));(case side2 => exact HC0.out);(case side3 => exact cM (Kd.C_below HR1.out HB.out));(case side4 => exact HC1.out);(case side5 => exact cM (Kd.C_below HR2.out HB.out));(case side6 => exact HC2.out);rintro e w19 ⟨v312,v314,rfl,ho0,ho1,hb⟩;refine ⟨_,rfl,?_⟩;have n0_ := Aside0.mk (Kd.R_elder' (rM HO307.out) (Kd.R_base ho0) hb);have n1_ := Aside0.mk (Kd.R_elder' (rM HO309.out) (Kd.R_base ho1) hb);have n2_ := Aside0.mk (Kd.R_lower (Kd.R_new' ho0 (Kd.R_lt (rM HO307.out))) (below_size (bM HB.out)));have n3_ := Aside0.mk (Kd.R_lower (Kd.R_new' ho1 (Kd.R_lt (rM HO309.out))) (below_size (bM HB.out)));have n4_ := Aside0.mk (below_step (bM HB.out) hb);clear HO307;clear HO309;clear HB;have HO307 := n0_;have HO309 := n1_;have HO313 := n2_;have HO315 := n3_;have HB := n4_;clear n0_ n1_ n2_ n3_ n4_;(try clear hb);(try clear hb2);(try clear hk);(try clear hi);(try clear ho0);(try clear ho1);obtain ⟨Ao20,co20,eo20⟩ := Kd.R_slice HO307.out;subst eo20;obtain ⟨Ao21,co21,eo21⟩ := Kd.R_slice HO313.out;subst eo21)|((with_reducible refine gate_callee (f := 18) rfl ?_);refine goesL_ (some 49) rfl rfl Tryd.func18 (by kernel_rfl) rfl #[.slice Ao20 t304.length co20,.slice Ao21 t310.length co21] rfl (by (try simp only [List.map_toArray,List.map_cons,List.map_nil]);first|done|rfl|(simp only [List.length_drop,List.length_take];rfl)) ?_;(with_reducible refine (codesearchref25_Files.calls kj5 _ _ t304 _ _ t310 true _ ?side1 ?side2 ?side3 ?side4 A15.out).mono ?_);(case side1 => exact cM (Kd.R_reads' HO307.out).2.2);(case side2 => exact (Kd.R_reads' HO307.out).2.1);(case side3 => exact cM (Kd.R_reads' HO313.out).2.2);(case side4 => exact (Kd.R_reads' HO313.out).2.1);rintro e w' ⟨rfl,⟨nd,rfl⟩⟩;refine ⟨_,rfl,?_⟩;obtain ⟨Ao22,co22,eo22⟩ := Kd.R_slice HO309.out;subst eo22;obtain ⟨Ao23,co23,eo23⟩ := Kd.R_slice HO315.out;subst eo23)|(go_at_call 25;(with_reducible refine (codesearchref01_Strings.calls kj5 _ _ t305 _ _ t311 t317 _ ?side1 ?side2 ?side3 ?side4 A17.out).mono ?_);(case side1 => exact cM (Kd.R_reads' HO309.out).2.2);(case side2 => exact (Kd.R_reads' HO309.out).2.1);(case side3 => exact cM (Kd.R_reads' HO315.out).2.2);(case side4 => exact (Kd.R_reads' HO315.out).2.1);rintro e w' ⟨rfl,⟨nd,rfl⟩⟩))
      go_ret
      exact ⟨by first|rfl|(simp [errW_none,errW_some] <;> rfl)|(simp [*,errW_none,errW_some] <;> rfl),bM HB.out⟩
     ·replace c16 := Bool.eq_false_iff.mpr c16
      subst c16
      have H1 : (some false) = some r := by rw [if_neg (show ¬ (false = true) by decide)] at H;exact H
      clear H
      have H := H1
      clear H1
      obtain rfl := Option.some.inj H
      go_wp2_with (first|((with_reducible refine gate_callee (f := 28) rfl ?_);refine goesL_ (some 37) rfl rfl Tryd.func28 (by kernel_rfl) rfl #[.slice A0 l0.length c0,.slice A1 l1.length c1,.slice A2 l2.length c2] rfl (by (try simp only [List.map_toArray,List.map_cons,List.map_nil]);first|done|rfl|(simp only [List.length_drop,List.length_take];rfl)) ?_;(with_reducible refine (tree_Merge.calls _ _ l0 _ _ l1 _ _ l2 t304 t305 _ ?side1 ?side2 ?side3 ?side4 ?side5 ?side6 A13.out).mono ?_);(case side1 => exact cM (Kd.C_below HR0.out HB.out));(case side2 => exact HC0.out);(case side3 => exact cM (Kd.C_below HR1.out HB.out));(case side4 => exact HC1.out);(case side5 => exact cM (Kd.C_below HR2.out HB.out));(case side6 => exact HC2.out);rintro e w24 ⟨v306,v308,rfl,ho0,ho1,hb⟩;refine ⟨_,rfl,?_⟩;have n0_ := Aside0.mk (Kd.R_lower ho0 (below_size (bM HB.out)));have n1_ := Aside0.mk (Kd.R_lower ho1 (below_size (bM HB.out)));have n2_ := Aside0.mk (below_step (bM HB.out) hb);clear HB;have HO307 := n0_;have HO309 := n1_;have HB := n2_;clear n0_ n1_ n2_;(try clear hb);(try clear hb2);(try clear hk);(try clear hi);(try clear ho0);(try clear ho1))|((with_reducible refine gate_callee (f := 29) rfl ?_);refine goesL_ (some 44) rfl rfl Tryd.func29 (by kernel_rfl) rfl #[.slice A0 l0.length c0,.slice A1 l1.length c1,.slice A2 l2.length c2] rfl (by (try simp only [List.map_toArray,List.map_cons,List.map_nil]);first|done|rfl|(simp only [List.length_drop,List.length_take];rfl)) ?_;(with_reducible refine (codesearchref25_Merge.calls kj5 _ _ l0 _ _ l1 _ _ l2 t310 t311 _ ?side1 ?side2 ?side3 ?side4 ?side5 ?side6 A14.out).mono ?_);(case side1 => exact cM (Kd.C_below HR0.out HB.out));(case side2 => exact HC0.out);(case side3 => exact cM (Kd.C_below HR1.out HB.out));(case side4 => exact HC1.out);(case side5 => exact cM (Kd.C_below HR2.out HB.out));(case side6 => exact HC2.out);rintro e w25 ⟨v312,v314,rfl,ho0,ho1,hb⟩;refine ⟨_,rfl,?_⟩;have n0_ := Aside0.mk (Kd.R_elder' (rM HO307.out) (Kd.R_base ho0) hb);have n1_ := Aside0.mk (Kd.R_elder' (rM HO309.out) (Kd.R_base ho1) hb);have n2_ := Aside0.mk (Kd.R_lower (Kd.R_new' ho0 (Kd.R_lt (rM HO307.out))) (below_size (bM HB.out)));have n3_ := Aside0.mk (Kd.R_lower (Kd.R_new' ho1 (Kd.R_lt (rM HO309.out))) (below_size (bM HB.out)));have n4_ := Aside0.mk (below_step (bM HB.out) hb);clear HO307;clear HO309;clear HB;have HO307 := n0_;have HO309 := n1_;have HO313 := n2_;have HO315 := n3_;have HB := n4_;clear n0_ n1_ n2_ n3_ n4_;(try clear hb);(try clear hb2);(try clear hk);(try clear hi);(try clear ho0);(try clear ho1);obtain ⟨Ao26,co26,eo26⟩ := Kd.R_slice HO307.out;subst eo26;obtain ⟨Ao27,co27,eo27⟩ := Kd.R_slice HO313.out;subst eo27)|((with_reducible refine gate_callee (f := 18) rfl ?_);refine goesL_ (some 49) rfl rfl Tryd.func18 (by kernel_rfl) rfl #[.slice Ao26 t304.length co26,.slice Ao27 t310.length co27] rfl (by (try simp only [List.map_toArray,List.map_cons,List.map_nil]);first|done|rfl|(simp only [List.length_drop,List.length_take];rfl)) ?_;(with_reducible refine (codesearchref25_Files.calls kj5 _ _ t304 _ _ t310 false _ ?side1 ?side2 ?side3 ?side4 A15.out).mono ?_);(case side1 => exact cM (Kd.R_reads' HO307.out).2.2);(case side2 => exact (Kd.R_reads' HO307.out).2.1);(case side3 => exact cM (Kd.R_reads' HO313.out).2.2);(case side4 => exact (Kd.R_reads' HO313.out).2.1);rintro e w' ⟨rfl,⟨nd,rfl⟩⟩;refine ⟨_,rfl,?_⟩))
      go_ret
      exact ⟨by first|rfl|(simp [errW_none,errW_some] <;> rfl)|(simp [*,errW_none,errW_some] <;> rfl),bM HB.out⟩
 ·replace c5 := Bool.eq_false_iff.mpr c5
  subst c5
  have H1 : (some false) = some r := by rw [if_neg (show ¬ (false = true) by decide)] at H;exact H
  clear H
  have H := H1
  clear H1
  obtain rfl := Option.some.inj H
  go_enter Tryd.func7,Tryd.ntmps7
  go_wp2_with (first|((with_reducible refine gate_callee (f := 11) rfl ?_);refine goesL_ (some 11) rfl rfl Tryd.func11 (by kernel_rfl) rfl #[] rfl (by (try simp only [List.map_toArray,List.map_cons,List.map_nil]);first|done|rfl|(simp only [List.length_drop,List.length_take];rfl)) ?_;(with_reducible refine (codesearchlaw25_alive.calls k  false _ A4.out).mono ?_);rintro e w28 ⟨rfl,hb⟩;refine ⟨_,rfl,?_⟩;have n0_ := Aside0.mk (below_step (bM HB.out) hb);clear HB;have HB := n0_;clear n0_;(try clear hb);(try clear hb2);(try clear hk);(try clear hi)))
  go_ret
  exact ⟨by first|rfl|(simp [errW_none,errW_some] <;> rfl)|(simp [*,errW_none,errW_some] <;> rfl),bM HB.out⟩

/-! ### codesearchlaw25_held: function 30 -/
def codesearchlaw25_held.l0 : Nat → List (S45) → ByteArray → Int → Option (Int)
|0,_,_,_ => none
|k + 1,x0,x1,x5 => if x5 < (x0.length : Int) then (if 0 ≤ x5 then (if ((rd_T45 x0 x5).f0).toList = x1.toList then (some ((rd_T45 x0 x5).f1)) else (codesearchlaw25_held.l0 k x0 x1 (wrap64 (x5 + 1)))) else (none)) else (some 0)
def codesearchlaw25_held.f (k : Nat) (l0 : List (S45)) (a1 : ByteArray) : Option (Int) := codesearchlaw25_held.l0 k l0 a1 0
theorem codesearchlaw25_held.mono_l : ∀ k, (∀ y0 y1 y2, LeO (codesearchlaw25_held.l0 k y0 y1 y2) (codesearchlaw25_held.l0 (k + 1) y0 y1 y2))
|0 => fun _ _ _ r h => by simp [codesearchlaw25_held.l0] at h
|k + 1 => by
  have ih0 := codesearchlaw25_held.mono_l k
  ·intro y0 y1 y2
   unfold codesearchlaw25_held.l0
   repeat' first
  |(with_reducible exact ih0 _ _ _)
  |(with_reducible exact LeO.refl _)
  |(with_reducible exact LeO.none _)
  |(with_reducible refine LeO.ite ?_ ?_)
  |(with_reducible refine LeO.bind ?_ (fun _ => ?_))
  |exact ih0 _ _ _
  |exact LeO.none _
  |refine LeO.ite ?_ ?_
  |refine LeO.bind ?_ (fun _ => ?_)
theorem codesearchlaw25_held.mono : ∀ a0 a1 k, LeO (codesearchlaw25_held.f k a0 a1) (codesearchlaw25_held.f (k + 1) a0 a1) := by
 intro a0 a1 k
 have ih0 := codesearchlaw25_held.mono_l k
 unfold codesearchlaw25_held.f
 repeat' first
  |(with_reducible exact ih0 _ _ _)
  |(with_reducible exact LeO.refl _)
  |(with_reducible exact LeO.none _)
  |(with_reducible refine LeO.ite ?_ ?_)
  |(with_reducible refine LeO.bind ?_ (fun _ => ?_))
  |exact ih0 _ _ _
  |exact LeO.none _
  |refine LeO.ite ?_ ?_
  |refine LeO.bind ?_ (fun _ => ?_)
set_option maxHeartbeats 4000000 in
set_option maxRecDepth 100000 in
theorem codesearchlaw25_held.calls (k : Nat) (A0 : Option Addr) (c0 : Nat) (l0 : List (S45)) (a1 : ByteArray) (r : Int) (w : World) (hr0 : Kd.C k45 w A0 l0.length l0) (hc0 : l0.length ≤ c0) (h : codesearchlaw25_held.f k l0 a1 = some r) :
  Calls Tryd.prog 30 #[.slice A0 l0.length c0,.string a1] w fun e w' => e = .returned (.int .i64 r) ∧ Drawn0 w w' := by
 have HR0 := Aside0.mk hr0
 have HC0 := Aside0.mk hc0
 clear hr0 hc0
 have H : (codesearchlaw25_held.l0 k l0 a1 0) = some r := h
 clear h
 have H' := Aside0.mk H
 clear H
 go_enter Tryd.func30,Tryd.ntmps30
 go_wp2
 go_loopg [5] k (fun kq v5 w' => ∃ (x5_1 : Int),v5 = .int .i64 x5_1 ∧ Aside0 (codesearchlaw25_held.l0 kq l0 a1 x5_1 = some r) ∧ Aside0 (kq ≤ k) ∧ Drawn0 w w')
 case atStart => exact ⟨(0),(by first|rfl|(simp;done)|(simp [*];done)),H',⟨Nat.le_refl _⟩,by repeat (first|exact Drawn0.refl _|apply Drawn0.step)⟩
 case round =>
  clear H'
  try clear p2
  obtain ⟨x5_1,rfl,HA,HK1,⟨m1,rfl⟩⟩ := hrel
  cases gk with
 |zero => exact absurd HA.out (by simp [codesearchlaw25_held.l0])
 |succ k1 =>
   have H := HA.out
   clear HA
   simp only [codesearchlaw25_held.l0] at H
   by_cases c3 : x5_1 < (l0.length : Int)
   ·rw [if_pos c3] at H
    have c3b0 : decide (x5_1 < (l0.length : Int)) = true := decide_eq_true c3
    clear c3
    by_cases c4 : 0 ≤ x5_1
    ·rw [if_pos c4] at H
     have c4b0 : decide (0 ≤ x5_1) = true := decide_eq_true c4
     clear c4
     by_cases c5 : ((rd_T45 l0 x5_1).f0).toList = a1.toList
     ·rw [if_pos c5] at H
      have c5b0 : (((rd_T45 l0 x5_1).f0).toList == a1.toList) = true := beq_iff_eq.mpr c5
      have c5b1 : (((rd_T45 l0 x5_1).f0).toList != a1.toList) = false := bne_eq_false_iff_eq.mpr c5
      clear c5
      obtain rfl := Option.some.inj H
      have p318 : 0 ≤ (x5_1 : Int) := of_decide_eq_true (by first|(with_reducible assumption)|assumption)
      have q318 : x5_1 < (l0.length : Int) := of_decide_eq_true (by first|(with_reducible assumption)|assumption)
      obtain ⟨ad318,e318,hx318_0,hx318_1⟩ := at_T45 HR0.out x5_1 p318 q318
      cases e318
      replace p318 := eq_true p318
      replace q318 := eq_true q318
      have p319 : 0 ≤ (x5_1 : Int) := of_decide_eq_true (by first|(with_reducible assumption)|assumption)
      have q319 : x5_1 < (l0.length : Int) := of_decide_eq_true (by first|(with_reducible assumption)|assumption)
      obtain ⟨ad319,e319,hx319_0,hx319_1⟩ := at_T45 HR0.out x5_1 p319 q319
      obtain rfl : ad318 = ad319 := (by injection e319)
      replace p319 := eq_true p319
      replace q319 := eq_true q319
      go_wp2
      go_ret
      exact ⟨by first|rfl|(simp;done)|(simp [*];done),by repeat (first|exact Drawn0.refl _|apply Drawn0.step)⟩
     ·rw [if_neg c5] at H
      have c5b0 : (((rd_T45 l0 x5_1).f0).toList == a1.toList) = false := beq_eq_false_iff_ne.mpr c5
      have c5b1 : (((rd_T45 l0 x5_1).f0).toList != a1.toList) = true := bne_iff_ne.mpr c5
      have H' := Aside0.mk H
      clear H
      have p318 : 0 ≤ (x5_1 : Int) := of_decide_eq_true (by first|(with_reducible assumption)|assumption)
      have q318 : x5_1 < (l0.length : Int) := of_decide_eq_true (by first|(with_reducible assumption)|assumption)
      obtain ⟨ad318,e318,hx318_0,hx318_1⟩ := at_T45 HR0.out x5_1 p318 q318
      cases e318
      replace p318 := eq_true p318
      replace q318 := eq_true q318
      go_wp2
      go_roundg k1
      case measure => have := HK1.out;omega
      case rel => exact ⟨(wrap64 (x5_1 + 1)),(by first|rfl|(simp;done)|(simp [*];done)),H',⟨by have := HK1.out;omega⟩,by repeat (first|exact Drawn0.refl _|apply Drawn0.step)⟩
    ·rw [if_neg c4] at H
     exact absurd H (by simp)
   ·rw [if_neg c3] at H
    have c3b0 : decide (x5_1 < (l0.length : Int)) = false := decide_eq_false c3
    clear c3
    obtain rfl := Option.some.inj H
    go_wp2
    go_ret
    exact ⟨by first|rfl|(simp;done)|(simp [*];done),by repeat (first|exact Drawn0.refl _|apply Drawn0.step)⟩

end Go.Proofs.YtpnhamfodjfacaaDoor.M
