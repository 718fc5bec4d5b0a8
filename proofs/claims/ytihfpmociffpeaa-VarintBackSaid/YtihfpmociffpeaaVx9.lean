-- Written by hp.py, a program of this session, over the kit's print of the translation. Not trusted: Lean checks it.
import Derived.Test.YtihfpmociffpeaaVx0
import Derived.Test.YtihfpmociffpeaaVx1
import Derived.Test.YtihfpmociffpeaaVx2
import Derived.Test.YtihfpmociffpeaaVx3
import Derived.Test.YtihfpmociffpeaaVx6
import Derived.Test.YtihfpmociffpeaaVx7
import Derived.Test.YtihfpmociffpeaaVx8
namespace Go.Proofs.Ytihfpmociffpeaa.V
open Go.RowKit Go.Proofs.YtihfpmociffpeaaW.PrintWords Go.Proofs.YtihfpmociffpeaaW.PrintLast Go.Proofs.YtihfpmociffpeaaW.PrintMore
attribute [local go_sem] max2_int min2_int max_two min_two max_three min_three max_four min_four   -- for this text's walks alone
set_option linter.unusedVariables false
set_option linter.unusedSimpArgs false

/-! ### codesearchlaw03_VarintBack: function 8 -/
mutual
def codesearchlaw03_VarintBack.j0 : Nat → List Int → List (S44) → List Int → Bool → Option (Bool)
 | 0, _, _, _, _ => none
 | k + 1, x0, x1, x2, x39 => if x39 = true then (some true) else (codesearchlaw03_VarintBack.l0 k x0 x1 x2 x0 0)
def codesearchlaw03_VarintBack.l0 : Nat → List Int → List (S44) → List Int → List Int → Int → Option (Bool)
 | 0, _, _, _, _, _ => none
 | k + 1, x0, x1, x2, x7, x8 => if x8 < (x1.length : Int) then (if 0 ≤ x8 then (if ((rd_T44 x1 x8).f1) < 0 then (codesearchlaw03_VarintBack.j2 k x0 x1 x2 x7 x8 true ((rd_T44 x1 x8).f0) ((rd_T44 x1 x8).f1) ((rd_T44 x1 x8).f2) ((rd_T44 x1 x8).f3)) else (if ((rd_T44 x1 x8).f1) > 4611686018427387904 then (codesearchlaw03_VarintBack.j2 k x0 x1 x2 x7 x8 true ((rd_T44 x1 x8).f0) ((rd_T44 x1 x8).f1) ((rd_T44 x1 x8).f2) ((rd_T44 x1 x8).f3)) else (if (((rd_T44 x1 x8).f2).size : Int) > 1000 then (codesearchlaw03_VarintBack.j2 k x0 x1 x2 x7 x8 true ((rd_T44 x1 x8).f0) ((rd_T44 x1 x8).f1) ((rd_T44 x1 x8).f2) ((rd_T44 x1 x8).f3)) else (if (((rd_T44 x1 x8).f3).length : Int) > 1000 then (codesearchlaw03_VarintBack.j2 k x0 x1 x2 x7 x8 true ((rd_T44 x1 x8).f0) ((rd_T44 x1 x8).f1) ((rd_T44 x1 x8).f2) ((rd_T44 x1 x8).f3)) else (if (((rd_T44 x1 x8).f3).length : Int) > 0 then (if 0 ≤ (wrap64 ((((rd_T44 x1 x8).f3).length : Int) - 1)) then (if (wrap64 ((((rd_T44 x1 x8).f3).length : Int) - 1)) < (((rd_T44 x1 x8).f3).length : Int) then (codesearchlaw03_VarintBack.j2 k x0 x1 x2 x7 x8 (decide ((rd ((rd_T44 x1 x8).f3) (wrap64 ((((rd_T44 x1 x8).f3).length : Int) - 1))) > 4611686018427387904)) ((rd_T44 x1 x8).f0) ((rd_T44 x1 x8).f1) ((rd_T44 x1 x8).f2) ((rd_T44 x1 x8).f3)) else (none)) else (none)) else (codesearchlaw03_VarintBack.j2 k x0 x1 x2 x7 x8 false ((rd_T44 x1 x8).f0) ((rd_T44 x1 x8).f1) ((rd_T44 x1 x8).f2) ((rd_T44 x1 x8).f3))))))) else (none)) else ((codesearchlaw03_joined.f k x7 x2).bind fun t318 => (codesearchlaw03_VarintBack.l1 k x1 t318 (x7.length : Int) (x0.length : Int) 0))
def codesearchlaw03_VarintBack.j2 : Nat → List Int → List (S44) → List Int → List Int → Int → Bool → Int → Int → ByteArray → List Int → Option (Bool)
 | 0, _, _, _, _, _, _, _, _, _, _ => none
 | k + 1, x0, x1, x2, x7, x8, x87, x307000, x307001, x307002, x307003 => if x87 = true then (some true) else (if (Int.tmod x307000 3) = 0 then ((varint_Put.f x7 x307001).bind fun t308 => (codesearchlaw03_VarintBack.l0 k x0 x1 x2 t308 (wrap64 (x8 + 1)))) else (if (Int.tmod x307000 3) = 1 then ((varint_PutString.f x7 x307002).bind fun t311 => (codesearchlaw03_VarintBack.l0 k x0 x1 x2 t311 (wrap64 (x8 + 1)))) else ((varint_PutList.f k x7 x307003).bind fun bt314 => (if bt314.2 = 0 then (codesearchlaw03_VarintBack.l0 k x0 x1 x2 bt314.1 (wrap64 (x8 + 1))) else (some true)))))
def codesearchlaw03_VarintBack.l1 : Nat → List (S44) → List Int → Int → Int → Int → Option (Bool)
 | 0, _, _, _, _, _ => none
 | k + 1, x1, x7, x12, x13, x14 => if x14 < (x1.length : Int) then (if 0 ≤ x14 then (if (Int.tmod ((rd_T44 x1 x14).f0) 3) = 0 then ((varint_Get.f k x7 x13).bind fun bt323 => (if bt323.2.2 = 0 then (if bt323.1 = ((rd_T44 x1 x14).f1) then (codesearchlaw03_VarintBack.l1 k x1 x7 x12 bt323.2.1 (wrap64 (x14 + 1))) else (some false)) else (some false))) else (if (Int.tmod ((rd_T44 x1 x14).f0) 3) = 1 then ((varint_GetString.f k x7 x13 (((rd_T44 x1 x14).f2).size : Int)).bind fun bt326 => (if bt326.2.2 = 0 then (if bt326.1.toList = ((rd_T44 x1 x14).f2).toList then (codesearchlaw03_VarintBack.l1 k x1 x7 x12 bt326.2.1 (wrap64 (x14 + 1))) else (some false)) else (some false))) else ((varint_GetList.f k x7 x13 (((rd_T44 x1 x14).f3).length : Int)).bind fun bt329 => (if bt329.2.2 = 0 then ((codesearchref03_SameInts.f k bt329.1 ((rd_T44 x1 x14).f3)).bind fun t334 => (if t334 = true then (codesearchlaw03_VarintBack.l1 k x1 x7 x12 bt329.2.1 (wrap64 (x14 + 1))) else (some false))) else (some false))))) else (none)) else (some (x13 == x12))
end
def codesearchlaw03_VarintBack.f (k : Nat) (l0 : List Int) (l1 : List (S44)) (l2 : List Int) : Option (Bool) := (codesearchlaw03_alive.f k).bind fun t304 => (if t304 = true then (if (l0.length : Int) > 1000 then (codesearchlaw03_VarintBack.j0 k l0 l1 l2 true) else (if (l2.length : Int) > 1000 then (codesearchlaw03_VarintBack.j0 k l0 l1 l2 true) else (codesearchlaw03_VarintBack.j0 k l0 l1 l2 (decide ((l1.length : Int) > 50))))) else (some false))
theorem codesearchlaw03_VarintBack.mono_l : ∀ k, (∀ y0 y1 y2 y3, LeO (codesearchlaw03_VarintBack.j0 k y0 y1 y2 y3) (codesearchlaw03_VarintBack.j0 (k + 1) y0 y1 y2 y3)) ∧ (∀ y0 y1 y2 y3 y4, LeO (codesearchlaw03_VarintBack.l0 k y0 y1 y2 y3 y4) (codesearchlaw03_VarintBack.l0 (k + 1) y0 y1 y2 y3 y4)) ∧ (∀ y0 y1 y2 y3 y4 y5 y6 y7 y8 y9, LeO (codesearchlaw03_VarintBack.j2 k y0 y1 y2 y3 y4 y5 y6 y7 y8 y9) (codesearchlaw03_VarintBack.j2 (k + 1) y0 y1 y2 y3 y4 y5 y6 y7 y8 y9)) ∧ (∀ y0 y1 y2 y3 y4, LeO (codesearchlaw03_VarintBack.l1 k y0 y1 y2 y3 y4) (codesearchlaw03_VarintBack.l1 (k + 1) y0 y1 y2 y3 y4))
 | 0 => ⟨fun _ _ _ _ r h => by simp [codesearchlaw03_VarintBack.j0] at h, fun _ _ _ _ _ r h => by simp [codesearchlaw03_VarintBack.l0] at h, fun _ _ _ _ _ _ _ _ _ _ r h => by simp [codesearchlaw03_VarintBack.j2] at h, fun _ _ _ _ _ r h => by simp [codesearchlaw03_VarintBack.l1] at h⟩
 | k + 1 => by
  obtain ⟨ih0, ih1, ih2, ih3⟩ := codesearchlaw03_VarintBack.mono_l k
  refine ⟨?_, ?_, ?_, ?_⟩
  ·intro y0 y1 y2 y3
   unfold codesearchlaw03_VarintBack.j0
   repeat' first
   | (with_reducible exact ih0 _ _ _ _)
   | (with_reducible exact ih1 _ _ _ _ _)
   | (with_reducible exact ih2 _ _ _ _ _ _ _ _ _ _)
   | (with_reducible exact ih3 _ _ _ _ _)
   | (with_reducible exact codesearchlaw03_alive.mono _)
   | (with_reducible exact codesearchlaw03_joined.mono _ _ _)
   | (with_reducible exact codesearchref03_SameInts.mono _ _ _)
   | (with_reducible exact varint_Get.mono _ _ _)
   | (with_reducible exact varint_GetList.mono _ _ _ _)
   | (with_reducible exact varint_GetString.mono _ _ _ _)
   | (with_reducible exact varint_PutList.mono _ _ _)
   | (with_reducible exact LeO.refl _)
   | (with_reducible exact LeO.none _)
   | (with_reducible refine LeO.ite ?_ ?_)
   | (with_reducible refine LeO.bind ?_ (fun _ => ?_))
   | exact ih0 _ _ _ _
   | exact ih1 _ _ _ _ _
   | exact ih2 _ _ _ _ _ _ _ _ _ _
   | exact ih3 _ _ _ _ _
   | exact codesearchlaw03_alive.mono _
   | exact codesearchlaw03_joined.mono _ _ _
   | exact codesearchref03_SameInts.mono _ _ _
   | exact varint_Get.mono _ _ _
   | exact varint_GetList.mono _ _ _ _
   | exact varint_GetString.mono _ _ _ _
   | exact varint_PutList.mono _ _ _
   | exact LeO.none _
   | refine LeO.ite ?_ ?_
   | refine LeO.bind ?_ (fun _ => ?_)
  ·intro y0 y1 y2 y3 y4
   unfold codesearchlaw03_VarintBack.l0
   repeat' first
   | (with_reducible exact ih0 _ _ _ _)
   | (with_reducible exact ih1 _ _ _ _ _)
   | (with_reducible exact ih2 _ _ _ _ _ _ _ _ _ _)
   | (with_reducible exact ih3 _ _ _ _ _)
   | (with_reducible exact codesearchlaw03_alive.mono _)
   | (with_reducible exact codesearchlaw03_joined.mono _ _ _)
   | (with_reducible exact codesearchref03_SameInts.mono _ _ _)
   | (with_reducible exact varint_Get.mono _ _ _)
   | (with_reducible exact varint_GetList.mono _ _ _ _)
   | (with_reducible exact varint_GetString.mono _ _ _ _)
   | (with_reducible exact varint_PutList.mono _ _ _)
   | (with_reducible exact LeO.refl _)
   | (with_reducible exact LeO.none _)
   | (with_reducible refine LeO.ite ?_ ?_)
   | (with_reducible refine LeO.bind ?_ (fun _ => ?_))
   | exact ih0 _ _ _ _
   | exact ih1 _ _ _ _ _
   | exact ih2 _ _ _ _ _ _ _ _ _ _
   | exact ih3 _ _ _ _ _
   | exact codesearchlaw03_alive.mono _
   | exact codesearchlaw03_joined.mono _ _ _
   | exact codesearchref03_SameInts.mono _ _ _
   | exact varint_Get.mono _ _ _
   | exact varint_GetList.mono _ _ _ _
   | exact varint_GetString.mono _ _ _ _
   | exact varint_PutList.mono _ _ _
   | exact LeO.none _
   | refine LeO.ite ?_ ?_
   | refine LeO.bind ?_ (fun _ => ?_)
  ·intro y0 y1 y2 y3 y4 y5 y6 y7 y8 y9
   unfold codesearchlaw03_VarintBack.j2
   repeat' first
   | (with_reducible exact ih0 _ _ _ _)
   | (with_reducible exact ih1 _ _ _ _ _)
   | (with_reducible exact ih2 _ _ _ _ _ _ _ _ _ _)
   | (with_reducible exact ih3 _ _ _ _ _)
   | (with_reducible exact codesearchlaw03_alive.mono _)
   | (with_reducible exact codesearchlaw03_joined.mono _ _ _)
   | (with_reducible exact codesearchref03_SameInts.mono _ _ _)
   | (with_reducible exact varint_Get.mono _ _ _)
   | (with_reducible exact varint_GetList.mono _ _ _ _)
   | (with_reducible exact varint_GetString.mono _ _ _ _)
   | (with_reducible exact varint_PutList.mono _ _ _)
   | (with_reducible exact LeO.refl _)
   | (with_reducible exact LeO.none _)
   | (with_reducible refine LeO.ite ?_ ?_)
   | (with_reducible refine LeO.bind ?_ (fun _ => ?_))
   | exact ih0 _ _ _ _
   | exact ih1 _ _ _ _ _
   | exact ih2 _ _ _ _ _ _ _ _ _ _
   | exact ih3 _ _ _ _ _
   | exact codesearchlaw03_alive.mono _
   | exact codesearchlaw03_joined.mono _ _ _
   | exact codesearchref03_SameInts.mono _ _ _
   | exact varint_Get.mono _ _ _
   | exact varint_GetList.mono _ _ _ _
   | exact varint_GetString.mono _ _ _ _
   | exact varint_PutList.mono _ _ _
   | exact LeO.none _
   | refine LeO.ite ?_ ?_
   | refine LeO.bind ?_ (fun _ => ?_)
  ·intro y0 y1 y2 y3 y4
   unfold codesearchlaw03_VarintBack.l1
   repeat' first
   | (with_reducible exact ih0 _ _ _ _)
   | (with_reducible exact ih1 _ _ _ _ _)
   | (with_reducible exact ih2 _ _ _ _ _ _ _ _ _ _)
   | (with_reducible exact ih3 _ _ _ _ _)
   | (with_reducible exact codesearchlaw03_alive.mono _)
   | (with_reducible exact codesearchlaw03_joined.mono _ _ _)
   | (with_reducible exact codesearchref03_SameInts.mono _ _ _)
   | (with_reducible exact varint_Get.mono _ _ _)
   | (with_reducible exact varint_GetList.mono _ _ _ _)
   | (with_reducible exact varint_GetString.mono _ _ _ _)
   | (with_reducible exact varint_PutList.mono _ _ _)
   | (with_reducible exact LeO.refl _)
   | (with_reducible exact LeO.none _)
   | (with_reducible refine LeO.ite ?_ ?_)
   | (with_reducible refine LeO.bind ?_ (fun _ => ?_))
   | exact ih0 _ _ _ _
   | exact ih1 _ _ _ _ _
   | exact ih2 _ _ _ _ _ _ _ _ _ _
   | exact ih3 _ _ _ _ _
   | exact codesearchlaw03_alive.mono _
   | exact codesearchlaw03_joined.mono _ _ _
   | exact codesearchref03_SameInts.mono _ _ _
   | exact varint_Get.mono _ _ _
   | exact varint_GetList.mono _ _ _ _
   | exact varint_GetString.mono _ _ _ _
   | exact varint_PutList.mono _ _ _
   | exact LeO.none _
   | refine LeO.ite ?_ ?_
   | refine LeO.bind ?_ (fun _ => ?_)
theorem codesearchlaw03_VarintBack.mono : ∀ a0 a1 a2 k, LeO (codesearchlaw03_VarintBack.f k a0 a1 a2) (codesearchlaw03_VarintBack.f (k + 1) a0 a1 a2) := by
 intro a0 a1 a2 k
 obtain ⟨ih0, ih1, ih2, ih3⟩ := codesearchlaw03_VarintBack.mono_l k
 unfold codesearchlaw03_VarintBack.f
 repeat' first
   | (with_reducible exact ih0 _ _ _ _)
   | (with_reducible exact ih1 _ _ _ _ _)
   | (with_reducible exact ih2 _ _ _ _ _ _ _ _ _ _)
   | (with_reducible exact ih3 _ _ _ _ _)
   | (with_reducible exact codesearchlaw03_alive.mono _)
   | (with_reducible exact codesearchlaw03_joined.mono _ _ _)
   | (with_reducible exact codesearchref03_SameInts.mono _ _ _)
   | (with_reducible exact varint_Get.mono _ _ _)
   | (with_reducible exact varint_GetList.mono _ _ _ _)
   | (with_reducible exact varint_GetString.mono _ _ _ _)
   | (with_reducible exact varint_PutList.mono _ _ _)
   | (with_reducible exact LeO.refl _)
   | (with_reducible exact LeO.none _)
   | (with_reducible refine LeO.ite ?_ ?_)
   | (with_reducible refine LeO.bind ?_ (fun _ => ?_))
   | exact ih0 _ _ _ _
   | exact ih1 _ _ _ _ _
   | exact ih2 _ _ _ _ _ _ _ _ _ _
   | exact ih3 _ _ _ _ _
   | exact codesearchlaw03_alive.mono _
   | exact codesearchlaw03_joined.mono _ _ _
   | exact codesearchref03_SameInts.mono _ _ _
   | exact varint_Get.mono _ _ _
   | exact varint_GetList.mono _ _ _ _
   | exact varint_GetString.mono _ _ _ _
   | exact varint_PutList.mono _ _ _
   | exact LeO.none _
   | refine LeO.ite ?_ ?_
   | refine LeO.bind ?_ (fun _ => ?_)
set_option maxHeartbeats 4000000 in
set_option maxRecDepth 100000 in
theorem codesearchlaw03_VarintBack.calls (k : Nat) (P0_ : Nat → Prop) (A0 : Option Addr) (c0 : Nat) (l0 : List Int) (A1 : Option Addr) (c1 : Nat) (l1 : List (S44)) (A2 : Option Addr) (c2 : Nat) (l2 : List Int) (r : Bool) (w : World) (hs0 : Kd.V (Kd.int .u8) 5 w w.heap.size (fun k_ => P0_ k_) (.slice A0 l0.length c0) l0) (hr1 : Kd.C k44 w A1 l1.length l1) (hc1 : l1.length ≤ c1) (hr2 : Kd.C (Kd.int .u8) w A2 l2.length l2) (hc2 : l2.length ≤ c2) (h : codesearchlaw03_VarintBack.f k l0 l1 l2 = some r) :
  Calls Try.prog 8 #[.slice A0 l0.length c0, .slice A1 l1.length c1, .slice A2 l2.length c2] w fun e w' => e = .returned (.bool r) ∧ Below w.heap.size w w' := by
 have hu44 := Try.underlying44
 have HO0 := Aside0.mk (show Kd.V (Kd.int .u8) 5 w w.heap.size (fun k_ => (P0_ k_ ∨ w.heap.size ≤ k_)) (.slice A0 l0.length c0) l0 from Kd.V_mono hs0 (fun k_ hk => .inl hk))
 have HR1 := Aside0.mk hr1
 have HC1 := Aside0.mk hc1
 clear hr1 hc1
 have HR2 := Aside0.mk hr2
 have HC2 := Aside0.mk hc2
 clear hr2 hc2
 have HB := Aside0.mk (Below.refl w.heap.size w)
 have H : ((codesearchlaw03_alive.f k).bind fun t304 => (if t304 = true then (if (l0.length : Int) > 1000 then (codesearchlaw03_VarintBack.j0 k l0 l1 l2 true) else (if (l2.length : Int) > 1000 then (codesearchlaw03_VarintBack.j0 k l0 l1 l2 true) else (codesearchlaw03_VarintBack.j0 k l0 l1 l2 (decide ((l1.length : Int) > 50))))) else (some false))) = some r := h
 clear h
 replace H := Option.bind_eq_some_iff.mp H
 obtain ⟨t304, A40, H⟩ := H
 replace H : (if t304 = true then (if (l0.length : Int) > 1000 then (codesearchlaw03_VarintBack.j0 k l0 l1 l2 true) else (if (l2.length : Int) > 1000 then (codesearchlaw03_VarintBack.j0 k l0 l1 l2 true) else (codesearchlaw03_VarintBack.j0 k l0 l1 l2 (decide ((l1.length : Int) > 50))))) else (some false)) = some r := H
 have A4 := Aside0.mk A40
 clear A40
 by_cases c5 : t304 = true
 ·subst c5
  have H1 : (if (l0.length : Int) > 1000 then (codesearchlaw03_VarintBack.j0 k l0 l1 l2 true) else (if (l2.length : Int) > 1000 then (codesearchlaw03_VarintBack.j0 k l0 l1 l2 true) else (codesearchlaw03_VarintBack.j0 k l0 l1 l2 (decide ((l1.length : Int) > 50))))) = some r := by rw [if_pos rfl] at H; exact H
  clear H
  have H := H1
  clear H1
  have HC6 := Aside0.mk H
  clear H
  go_enter Try.func8, Try.ntmps8
  go_upto_region 3 with (first | ((with_reducible refine gate_callee (f := 15) rfl ?_); refine goesL_ (some 25) rfl rfl Try.func15 (by kernel_rfl) rfl #[] rfl (by (try simp only [List.map_toArray, List.map_cons, List.map_nil]); first | done | rfl | (simp only [List.length_drop, List.length_take]; rfl)) ?_; (with_reducible refine (codesearchlaw03_alive.calls k  true _ A4.out).mono ?_); rintro e w7 ⟨rfl, hb⟩; refine ⟨_, rfl, ?_⟩; have n0_ := Aside0.mk (Kd.V_below (by (with_reducible repeat (first | apply Kd.V_alloc | apply Kd.V_drewN | apply Kd.V_drew)); exact HO0.out) hb); have n1_ := Aside0.mk (below_step (by repeat (first | (with_reducible first | exact HB.out | apply below_alloc | apply pw_below_drewN | apply below_drew1) | exact HB.out)) hb); clear HO0; clear HB; have HO0 := n0_; have HB := n1_; clear n0_ n1_; (try clear hb); (try clear hb2); (try clear hk); (try clear hi)))
  (try simp only [Act.put, List.setIfInBounds_toArray, List.set_cons_zero, List.set_cons_succ])
  go_cut [39] (fun v39 wc => ∃ (kq : Nat) (x39_5 : Bool), v39 = .bool x39_5 ∧ Aside0 (codesearchlaw03_VarintBack.j0 kq l0 l1 l2 x39_5 = some r) ∧ Aside0 (kq ≤ k) ∧ Aside0 (Kd.V (Kd.int .u8) 5 wc w.heap.size (fun k_ => (P0_ k_ ∨ w.heap.size ≤ k_)) (.slice A0 l0.length c0) l0) ∧ Aside0 (Below w.heap.size w wc))
  case first =>
   have H := HC6.out
   clear HC6
   by_cases c8 : (l0.length : Int) > 1000
   ·rw [if_pos c8] at H
    have c8b0 : decide (1000 < (l0.length : Int)) = true := decide_eq_true c8
    have c8b1 : decide (1000 < l0.length) = true := decide_eq_true (by omega)
    clear c8
    (first | rw [c8b0] | (simp only [i64_w, i32_w]; rw [c8b0]) | skip)
    have H' := Aside0.mk H
    clear H
    go_wp2
    go_meet
    case rel => exact ⟨_, (true), (by first | rfl | (simp; done) | (simp [*]; done)), H', ⟨by first | omega | exact Nat.le_refl _⟩, ⟨by (with_reducible repeat (first | apply Kd.V_alloc | apply Kd.V_drewN | apply Kd.V_drew)); exact HO0.out⟩, ⟨by repeat (first | (with_reducible first | exact HB.out | apply below_alloc | apply pw_below_drewN | apply below_drew1) | exact HB.out)⟩⟩
   ·rw [if_neg c8] at H
    have c8b0 : decide (1000 < (l0.length : Int)) = false := decide_eq_false c8
    have c8b1 : decide (1000 < l0.length) = false := decide_eq_false (by omega)
    clear c8
    (first | rw [c8b0] | (simp only [i64_w, i32_w]; rw [c8b0]) | skip)
    by_cases c9 : (l2.length : Int) > 1000
    ·rw [if_pos c9] at H
     have c9b0 : decide (1000 < (l2.length : Int)) = true := decide_eq_true c9
     have c9b1 : decide (1000 < l2.length) = true := decide_eq_true (by omega)
     clear c9
     have H' := Aside0.mk H
     clear H
     go_wp2
     go_meet
     case rel => exact ⟨_, (true), (by first | rfl | (simp; done) | (simp [*]; done)), H', ⟨by first | omega | exact Nat.le_refl _⟩, ⟨by (with_reducible repeat (first | apply Kd.V_alloc | apply Kd.V_drewN | apply Kd.V_drew)); exact HO0.out⟩, ⟨by repeat (first | (with_reducible first | exact HB.out | apply below_alloc | apply pw_below_drewN | apply below_drew1) | exact HB.out)⟩⟩
    ·rw [if_neg c9] at H
     have c9b0 : decide (1000 < (l2.length : Int)) = false := decide_eq_false c9
     have c9b1 : decide (1000 < l2.length) = false := decide_eq_false (by omega)
     clear c9
     have H' := Aside0.mk H
     clear H
     go_wp2
     go_meet
     case rel => exact ⟨_, (decide ((l1.length : Int) > 50)), (by first | rfl | (simp; done) | (simp [*]; done)), H', ⟨by first | omega | exact Nat.le_refl _⟩, ⟨by (with_reducible repeat (first | apply Kd.V_alloc | apply Kd.V_drewN | apply Kd.V_drew)); exact HO0.out⟩, ⟨by repeat (first | (with_reducible first | exact HB.out | apply below_alloc | apply pw_below_drewN | apply below_drew1) | exact HB.out)⟩⟩
  case rest =>
   clear HC6
   try clear c1
   try clear c2
   try clear p2
   try clear c5
   try clear c8
   try clear c8b0
   try clear c8b1
   try clear c9
   try clear c9b0
   try clear c9b1
   obtain ⟨kq, x39_5, rfl, HA, HJ5, HO_0, HB⟩ := hcut
   cases kq with
   | zero => exact absurd HA.out (by simp [codesearchlaw03_VarintBack.j0])
   | succ kj5 =>
    have H := HA.out
    clear HA
    simp only [codesearchlaw03_VarintBack.j0] at H
    by_cases c10 : x39_5 = true
    ·subst c10
     have H1 : (some true) = some r := by rw [if_pos rfl] at H; exact H
     clear H
     have H := H1
     clear H1
     obtain rfl := Option.some.inj H
     go_wp2
     go_ret
     exact ⟨by first | rfl | (simp [errW_none, errW_some] <;> rfl) | (simp [*, errW_none, errW_some] <;> rfl), by repeat (first | (with_reducible first | exact HB.out | apply below_alloc | apply pw_below_drewN | apply below_drew1) | exact HB.out)⟩
    ·replace c10 := Bool.eq_false_iff.mpr c10
     subst c10
     have H1 : (codesearchlaw03_VarintBack.l0 kj5 l0 l1 l2 l0 0) = some r := by rw [if_neg (show ¬ (false = true) by decide)] at H; exact H
     clear H
     have H := H1
     clear H1
     have H' := Aside0.mk H
     clear H
     go_wp2
     go_loopg [7, 8] kj5 (fun kq v7 v8 w' => ∃ (x7_2 : List Int) (x8_2 : Int), v8 = .int .i64 x8_2 ∧ Aside0 (codesearchlaw03_VarintBack.l0 kq l0 l1 l2 x7_2 x8_2 = some r) ∧ Aside0 (kq ≤ kj5) ∧ Aside0 (Kd.V (Kd.int .u8) 5 w' w.heap.size (fun k_ => (P0_ k_ ∨ w.heap.size ≤ k_)) (.slice A0 l0.length c0) l0) ∧ Aside0 (Kd.V (Kd.int .u8) 5 w' w.heap.size (fun k_ => (P0_ k_ ∨ w.heap.size ≤ k_)) v7 x7_2) ∧ Aside0 (Below w.heap.size w w'))
     case atStart => exact ⟨(l0), (0), (by first | rfl | (simp; done) | (simp [*]; done)), H', ⟨Nat.le_refl _⟩, ⟨by (with_reducible repeat (first | apply Kd.V_alloc | apply Kd.V_drewN | apply Kd.V_drew)); exact HO_0.out⟩, ⟨by (with_reducible repeat (first | apply Kd.V_alloc | apply Kd.V_drewN | apply Kd.V_drew)); exact HO_0.out⟩, ⟨by repeat (first | (with_reducible first | exact HB.out | apply below_alloc | apply pw_below_drewN | apply below_drew1) | exact HB.out)⟩⟩
     case round =>
      clear H'
      try clear c1
      try clear c2
      try clear p2
      try clear c5
      try clear c8
      try clear c8b0
      try clear c8b1
      try clear c9
      try clear c9b0
      try clear c9b1
      try clear c10
      try clear p2
      obtain ⟨x7_2, x8_2, rfl, HA, HK2, HO_0, HO_7, HB⟩ := hrel
      cases gk with
      | zero => exact absurd HA.out (by simp [codesearchlaw03_VarintBack.l0])
      | succ k2 =>
       have H := HA.out
       clear HA
       simp only [codesearchlaw03_VarintBack.l0] at H
       by_cases c11 : x8_2 < (l1.length : Int)
       ·rw [if_pos c11] at H
        have c11b0 : decide (x8_2 < (l1.length : Int)) = true := decide_eq_true c11
        clear c11
        by_cases c12 : 0 ≤ x8_2
        ·rw [if_pos c12] at H
         have c12b0 : decide (0 ≤ x8_2) = true := decide_eq_true c12
         clear c12
         have HC13 := Aside0.mk H
         clear H
         have p305 : 0 ≤ (x8_2 : Int) := of_decide_eq_true (by first | (with_reducible assumption) | assumption)
         have q305 : x8_2 < (l1.length : Int) := of_decide_eq_true (by first | (with_reducible assumption) | assumption)
         obtain ⟨ad305, A305_3, c305_3, e305, hx305_0, hx305_1, hx305_2, hx305_3, hl305_3, hi305_3⟩ := at_T44 HR1.out x8_2 p305 q305
         cases e305
         replace hx305_0 := (HB.out.cell (World.block_lt_of_cell? w _ hx305_0)).trans hx305_0
         replace hx305_1 := (HB.out.cell (World.block_lt_of_cell? w _ hx305_1)).trans hx305_1
         replace hx305_2 := (HB.out.cell (World.block_lt_of_cell? w _ hx305_2)).trans hx305_2
         replace hx305_3 := (HB.out.cell (World.block_lt_of_cell? w _ hx305_3)).trans hx305_3
         have HR305_3 := Aside0.mk hi305_3
         have HC305_3 := Aside0.mk hl305_3
         clear hi305_3 hl305_3
         replace p305 := eq_true p305
         replace q305 := eq_true q305
         go_upto_region 10 with (first | ((with_reducible refine gate_dst (N := 9) rfl ?_); (try (refine gate_guard (by rfl) ?_; dsimp only)); refine box_event ?hg (N := 9) ?hd (cs := #[.int .i64 0, .int .i64 0, .string (⟨#[]⟩ : ByteArray), .slice none 0 0]) (t := 44) ?hr ?_; (case hd => rfl); (case hg => rfl); (case hr => first | (go_simp; done) | (go_simp; rfl)); intro gb306 hg w14 hbox hb; have n0_ := Aside0.mk (Kd.V_below (Kd.V_elderB (by (with_reducible repeat (first | apply Kd.V_alloc | apply Kd.V_drewN | apply Kd.V_drew)); exact HO_0.out) gb306 (Nat.le_of_eq hg.symm)) hb); have n1_ := Aside0.mk (Kd.V_below (Kd.V_elderB (by (with_reducible repeat (first | apply Kd.V_alloc | apply Kd.V_drewN | apply Kd.V_drew)); exact HO_7.out) gb306 (Nat.le_of_eq hg.symm)) hb); have n2_ := Aside0.mk (below_step (by repeat (first | (with_reducible first | exact HB.out | apply below_alloc | apply pw_below_drewN | apply below_drew1) | exact HB.out)) hb); have n3_ := Aside0.mk (hbox); have n4_ := Aside0.mk ((by rw [hg]; exact (below_size (by repeat (first | (with_reducible first | exact HB.out | apply below_alloc | apply pw_below_drewN | apply below_drew1) | exact HB.out))) : w.heap.size ≤ gb306)); have n5_ := Aside0.mk ((by rw [hg]; exact (below_size (by repeat (first | (with_reducible first | exact HB.out | apply below_alloc | apply pw_below_drewN | apply below_drew1) | exact HB.out))) : w.heap.size ≤ gb306)); clear HO_0; clear HO_7; clear HB; have HO_0 := n0_; have HO_7 := n1_; have HB := n2_; have BK306 := n3_; have GW306 := n4_; have GE306 := n5_; clear n0_ n1_ n2_ n3_ n4_ n5_; clear hb hbox hg; have hcz15_0 : w14.cell? ⟨gb306, 0, none⟩ = some (.int .i64 0) := (blk_cell BK306.out 0).trans rfl; have hcz15_1 : w14.cell? ⟨gb306, 1, none⟩ = some (.int .i64 0) := (blk_cell BK306.out 1).trans rfl; have hcz15_2 : w14.cell? ⟨gb306, 2, none⟩ = some (.string (⟨#[]⟩ : ByteArray)) := (blk_cell BK306.out 2).trans rfl; have hcz15_3 : w14.cell? ⟨gb306, 3, none⟩ = some (.slice none 0 0) := (blk_cell BK306.out 3).trans rfl; have hfz15_0 := blk_frozen BK306.out 0; have hfz15_1 := blk_frozen BK306.out 1; have hfz15_2 := blk_frozen BK306.out 2; have hfz15_3 := blk_frozen BK306.out 3))
         (try simp only [Act.put, List.setIfInBounds_toArray, List.set_cons_zero, List.set_cons_succ])
         go_cut [87] (fun v87 wc => ∃ (kq : Nat) (x87_12 : Bool), v87 = .bool x87_12 ∧ Aside0 (codesearchlaw03_VarintBack.j2 kq l0 l1 l2 x7_2 x8_2 x87_12 ((rd_T44 l1 x8_2).f0) ((rd_T44 l1 x8_2).f1) ((rd_T44 l1 x8_2).f2) ((rd_T44 l1 x8_2).f3) = some r) ∧ Aside0 (kq ≤ k2) ∧ Aside0 (Kd.V (Kd.int .u8) 5 wc w.heap.size (fun k_ => (P0_ k_ ∨ w.heap.size ≤ k_) ∧ k_ ≠ gb306) (.slice A0 l0.length c0) l0) ∧ Aside0 (Kd.V (Kd.int .u8) 5 wc w.heap.size (fun k_ => (P0_ k_ ∨ w.heap.size ≤ k_) ∧ k_ ≠ gb306) u7 x7_2) ∧ Aside0 (wc.heap[gb306]? = some (.cells #[.int .i64 ((rd_T44 l1 x8_2).f0), .int .i64 ((rd_T44 l1 x8_2).f1), .string ((rd_T44 l1 x8_2).f2), (.slice A305_3 ((rd_T44 l1 x8_2).f3).length c305_3)] 44 (0, 0))) ∧ Aside0 (Below w.heap.size w wc))
         case first =>
          have H := HC13.out
          clear HC13
          by_cases c16 : ((rd_T44 l1 x8_2).f1) < 0
          ·rw [if_pos c16] at H
           have c16b0 : decide (((rd_T44 l1 x8_2).f1) < 0) = true := decide_eq_true c16
           clear c16
           (first | rw [c16b0] | (simp only [i64_w, i32_w]; rw [c16b0]) | skip)
           have H' := Aside0.mk H
           clear H
           have hcz17_0 : w14.cell? ⟨gb306, 0, none⟩ = some (.int .i64 0) := (blk_cell BK306.out 0).trans rfl
           have hcz17_1 : w14.cell? ⟨gb306, 1, none⟩ = some (.int .i64 0) := (blk_cell BK306.out 1).trans rfl
           have hcz17_2 : w14.cell? ⟨gb306, 2, none⟩ = some (.string (⟨#[]⟩ : ByteArray)) := (blk_cell BK306.out 2).trans rfl
           have hcz17_3 : w14.cell? ⟨gb306, 3, none⟩ = some (.slice none 0 0) := (blk_cell BK306.out 3).trans rfl
           have hfz17_0 := blk_frozen BK306.out 0
           have hfz17_1 := blk_frozen BK306.out 1
           have hfz17_2 := blk_frozen BK306.out 2
           have hfz17_3 := blk_frozen BK306.out 3
           go_wp2
           go_meet
           case rel => exact ⟨_, (true), (by first | rfl | (simp; done) | (simp [*]; done)), H', ⟨by have := HJ5.out; have := HK2.out; first | omega | exact Nat.le_refl _⟩, ⟨by (with_reducible repeat (first | apply Kd.V_alloc | apply Kd.V_drewN | apply Kd.V_drew)); exact Kd.V_mono (Kd.V_far (p := ⟨gb306, 3, none⟩) (Kd.V_far (p := ⟨gb306, 2, none⟩) (Kd.V_far (p := ⟨gb306, 1, none⟩) (Kd.V_far (p := ⟨gb306, 0, none⟩) (Kd.V_mono HO_0.out (fun k_ hk => (⟨hk, hk.2⟩ : _ ∧ k_ ≠ gb306))) (fun _ hk => hk.2) (.int .i64 ((rd_T44 l1 x8_2).f0))) (fun _ hk => hk.2) (.int .i64 ((rd_T44 l1 x8_2).f1))) (fun _ hk => hk.2) (.string ((rd_T44 l1 x8_2).f2))) (fun _ hk => hk.2) (.slice A305_3 ((rd_T44 l1 x8_2).f3).length c305_3)) (fun _ hk => ⟨hk.1.1, hk.1.2⟩)⟩, ⟨by (with_reducible repeat (first | apply Kd.V_alloc | apply Kd.V_drewN | apply Kd.V_drew)); exact Kd.V_mono (Kd.V_far (p := ⟨gb306, 3, none⟩) (Kd.V_far (p := ⟨gb306, 2, none⟩) (Kd.V_far (p := ⟨gb306, 1, none⟩) (Kd.V_far (p := ⟨gb306, 0, none⟩) (Kd.V_mono HO_7.out (fun k_ hk => (⟨hk, hk.2⟩ : _ ∧ k_ ≠ gb306))) (fun _ hk => hk.2) (.int .i64 ((rd_T44 l1 x8_2).f0))) (fun _ hk => hk.2) (.int .i64 ((rd_T44 l1 x8_2).f1))) (fun _ hk => hk.2) (.string ((rd_T44 l1 x8_2).f2))) (fun _ hk => hk.2) (.slice A305_3 ((rd_T44 l1 x8_2).f3).length c305_3)) (fun _ hk => ⟨hk.1.1, hk.1.2⟩)⟩, ⟨by (with_reducible repeat (first | refine blk_drewN ?_ _ | refine blk_drew ?_ | refine blk_alloc ?_ _)); refine blk_put (cs := #[.int .i64 ((rd_T44 l1 x8_2).f0), .int .i64 ((rd_T44 l1 x8_2).f1), .string ((rd_T44 l1 x8_2).f2), .slice none 0 0]) ?_ 3 _ rfl; (with_reducible repeat (first | refine blk_drewN ?_ _ | refine blk_drew ?_ | refine blk_alloc ?_ _)); refine blk_put (cs := #[.int .i64 ((rd_T44 l1 x8_2).f0), .int .i64 ((rd_T44 l1 x8_2).f1), .string (⟨#[]⟩ : ByteArray), .slice none 0 0]) ?_ 2 _ rfl; (with_reducible repeat (first | refine blk_drewN ?_ _ | refine blk_drew ?_ | refine blk_alloc ?_ _)); refine blk_put (cs := #[.int .i64 ((rd_T44 l1 x8_2).f0), .int .i64 0, .string (⟨#[]⟩ : ByteArray), .slice none 0 0]) ?_ 1 _ rfl; (with_reducible repeat (first | refine blk_drewN ?_ _ | refine blk_drew ?_ | refine blk_alloc ?_ _)); refine blk_put (cs := #[.int .i64 0, .int .i64 0, .string (⟨#[]⟩ : ByteArray), .slice none 0 0]) ?_ 0 _ rfl; (with_reducible repeat (first | refine blk_drewN ?_ _ | refine blk_drew ?_ | refine blk_alloc ?_ _)); exact BK306.out⟩, ⟨by repeat (first | (with_reducible first | exact HB.out | apply below_alloc | apply pw_below_drewN | apply below_drew1 | refine below_set ?_ GE306.out) | exact HB.out)⟩⟩
          ·rw [if_neg c16] at H
           have c16b0 : decide (((rd_T44 l1 x8_2).f1) < 0) = false := decide_eq_false c16
           clear c16
           (first | rw [c16b0] | (simp only [i64_w, i32_w]; rw [c16b0]) | skip)
           by_cases c18 : ((rd_T44 l1 x8_2).f1) > 4611686018427387904
           ·rw [if_pos c18] at H
            have c18b0 : decide (4611686018427387904 < ((rd_T44 l1 x8_2).f1)) = true := decide_eq_true c18
            clear c18
            have H' := Aside0.mk H
            clear H
            have hcz19_0 : w14.cell? ⟨gb306, 0, none⟩ = some (.int .i64 0) := (blk_cell BK306.out 0).trans rfl
            have hcz19_1 : w14.cell? ⟨gb306, 1, none⟩ = some (.int .i64 0) := (blk_cell BK306.out 1).trans rfl
            have hcz19_2 : w14.cell? ⟨gb306, 2, none⟩ = some (.string (⟨#[]⟩ : ByteArray)) := (blk_cell BK306.out 2).trans rfl
            have hcz19_3 : w14.cell? ⟨gb306, 3, none⟩ = some (.slice none 0 0) := (blk_cell BK306.out 3).trans rfl
            have hfz19_0 := blk_frozen BK306.out 0
            have hfz19_1 := blk_frozen BK306.out 1
            have hfz19_2 := blk_frozen BK306.out 2
            have hfz19_3 := blk_frozen BK306.out 3
            go_wp2
            go_meet
            case rel => exact ⟨_, (true), (by first | rfl | (simp; done) | (simp [*]; done)), H', ⟨by have := HJ5.out; have := HK2.out; first | omega | exact Nat.le_refl _⟩, ⟨by (with_reducible repeat (first | apply Kd.V_alloc | apply Kd.V_drewN | apply Kd.V_drew)); exact Kd.V_mono (Kd.V_far (p := ⟨gb306, 3, none⟩) (Kd.V_far (p := ⟨gb306, 2, none⟩) (Kd.V_far (p := ⟨gb306, 1, none⟩) (Kd.V_far (p := ⟨gb306, 0, none⟩) (Kd.V_mono HO_0.out (fun k_ hk => (⟨hk, hk.2⟩ : _ ∧ k_ ≠ gb306))) (fun _ hk => hk.2) (.int .i64 ((rd_T44 l1 x8_2).f0))) (fun _ hk => hk.2) (.int .i64 ((rd_T44 l1 x8_2).f1))) (fun _ hk => hk.2) (.string ((rd_T44 l1 x8_2).f2))) (fun _ hk => hk.2) (.slice A305_3 ((rd_T44 l1 x8_2).f3).length c305_3)) (fun _ hk => ⟨hk.1.1, hk.1.2⟩)⟩, ⟨by (with_reducible repeat (first | apply Kd.V_alloc | apply Kd.V_drewN | apply Kd.V_drew)); exact Kd.V_mono (Kd.V_far (p := ⟨gb306, 3, none⟩) (Kd.V_far (p := ⟨gb306, 2, none⟩) (Kd.V_far (p := ⟨gb306, 1, none⟩) (Kd.V_far (p := ⟨gb306, 0, none⟩) (Kd.V_mono HO_7.out (fun k_ hk => (⟨hk, hk.2⟩ : _ ∧ k_ ≠ gb306))) (fun _ hk => hk.2) (.int .i64 ((rd_T44 l1 x8_2).f0))) (fun _ hk => hk.2) (.int .i64 ((rd_T44 l1 x8_2).f1))) (fun _ hk => hk.2) (.string ((rd_T44 l1 x8_2).f2))) (fun _ hk => hk.2) (.slice A305_3 ((rd_T44 l1 x8_2).f3).length c305_3)) (fun _ hk => ⟨hk.1.1, hk.1.2⟩)⟩, ⟨by (with_reducible repeat (first | refine blk_drewN ?_ _ | refine blk_drew ?_ | refine blk_alloc ?_ _)); refine blk_put (cs := #[.int .i64 ((rd_T44 l1 x8_2).f0), .int .i64 ((rd_T44 l1 x8_2).f1), .string ((rd_T44 l1 x8_2).f2), .slice none 0 0]) ?_ 3 _ rfl; (with_reducible repeat (first | refine blk_drewN ?_ _ | refine blk_drew ?_ | refine blk_alloc ?_ _)); refine blk_put (cs := #[.int .i64 ((rd_T44 l1 x8_2).f0), .int .i64 ((rd_T44 l1 x8_2).f1), .string (⟨#[]⟩ : ByteArray), .slice none 0 0]) ?_ 2 _ rfl; (with_reducible repeat (first | refine blk_drewN ?_ _ | refine blk_drew ?_ | refine blk_alloc ?_ _)); refine blk_put (cs := #[.int .i64 ((rd_T44 l1 x8_2).f0), .int .i64 0, .string (⟨#[]⟩ : ByteArray), .slice none 0 0]) ?_ 1 _ rfl; (with_reducible repeat (first | refine blk_drewN ?_ _ | refine blk_drew ?_ | refine blk_alloc ?_ _)); refine blk_put (cs := #[.int .i64 0, .int .i64 0, .string (⟨#[]⟩ : ByteArray), .slice none 0 0]) ?_ 0 _ rfl; (with_reducible repeat (first | refine blk_drewN ?_ _ | refine blk_drew ?_ | refine blk_alloc ?_ _)); exact BK306.out⟩, ⟨by repeat (first | (with_reducible first | exact HB.out | apply below_alloc | apply pw_below_drewN | apply below_drew1 | refine below_set ?_ GE306.out) | exact HB.out)⟩⟩
           ·rw [if_neg c18] at H
            have c18b0 : decide (4611686018427387904 < ((rd_T44 l1 x8_2).f1)) = false := decide_eq_false c18
            clear c18
            by_cases c20 : (((rd_T44 l1 x8_2).f2).size : Int) > 1000
            ·rw [if_pos c20] at H
             have c20b0 : decide (1000 < (((rd_T44 l1 x8_2).f2).size : Int)) = true := decide_eq_true c20
             have c20b1 : decide (1000 < ((rd_T44 l1 x8_2).f2).size) = true := decide_eq_true (by omega)
             clear c20
             have H' := Aside0.mk H
             clear H
             have hcz21_0 : w14.cell? ⟨gb306, 0, none⟩ = some (.int .i64 0) := (blk_cell BK306.out 0).trans rfl
             have hcz21_1 : w14.cell? ⟨gb306, 1, none⟩ = some (.int .i64 0) := (blk_cell BK306.out 1).trans rfl
             have hcz21_2 : w14.cell? ⟨gb306, 2, none⟩ = some (.string (⟨#[]⟩ : ByteArray)) := (blk_cell BK306.out 2).trans rfl
             have hcz21_3 : w14.cell? ⟨gb306, 3, none⟩ = some (.slice none 0 0) := (blk_cell BK306.out 3).trans rfl
             have hfz21_0 := blk_frozen BK306.out 0
             have hfz21_1 := blk_frozen BK306.out 1
             have hfz21_2 := blk_frozen BK306.out 2
             have hfz21_3 := blk_frozen BK306.out 3
             go_wp2
             go_meet
             case rel => exact ⟨_, (true), (by first | rfl | (simp; done) | (simp [*]; done)), H', ⟨by have := HJ5.out; have := HK2.out; first | omega | exact Nat.le_refl _⟩, ⟨by (with_reducible repeat (first | apply Kd.V_alloc | apply Kd.V_drewN | apply Kd.V_drew)); exact Kd.V_mono (Kd.V_far (p := ⟨gb306, 3, none⟩) (Kd.V_far (p := ⟨gb306, 2, none⟩) (Kd.V_far (p := ⟨gb306, 1, none⟩) (Kd.V_far (p := ⟨gb306, 0, none⟩) (Kd.V_mono HO_0.out (fun k_ hk => (⟨hk, hk.2⟩ : _ ∧ k_ ≠ gb306))) (fun _ hk => hk.2) (.int .i64 ((rd_T44 l1 x8_2).f0))) (fun _ hk => hk.2) (.int .i64 ((rd_T44 l1 x8_2).f1))) (fun _ hk => hk.2) (.string ((rd_T44 l1 x8_2).f2))) (fun _ hk => hk.2) (.slice A305_3 ((rd_T44 l1 x8_2).f3).length c305_3)) (fun _ hk => ⟨hk.1.1, hk.1.2⟩)⟩, ⟨by (with_reducible repeat (first | apply Kd.V_alloc | apply Kd.V_drewN | apply Kd.V_drew)); exact Kd.V_mono (Kd.V_far (p := ⟨gb306, 3, none⟩) (Kd.V_far (p := ⟨gb306, 2, none⟩) (Kd.V_far (p := ⟨gb306, 1, none⟩) (Kd.V_far (p := ⟨gb306, 0, none⟩) (Kd.V_mono HO_7.out (fun k_ hk => (⟨hk, hk.2⟩ : _ ∧ k_ ≠ gb306))) (fun _ hk => hk.2) (.int .i64 ((rd_T44 l1 x8_2).f0))) (fun _ hk => hk.2) (.int .i64 ((rd_T44 l1 x8_2).f1))) (fun _ hk => hk.2) (.string ((rd_T44 l1 x8_2).f2))) (fun _ hk => hk.2) (.slice A305_3 ((rd_T44 l1 x8_2).f3).length c305_3)) (fun _ hk => ⟨hk.1.1, hk.1.2⟩)⟩, ⟨by (with_reducible repeat (first | refine blk_drewN ?_ _ | refine blk_drew ?_ | refine blk_alloc ?_ _)); refine blk_put (cs := #[.int .i64 ((rd_T44 l1 x8_2).f0), .int .i64 ((rd_T44 l1 x8_2).f1), .string ((rd_T44 l1 x8_2).f2), .slice none 0 0]) ?_ 3 _ rfl; (with_reducible repeat (first | refine blk_drewN ?_ _ | refine blk_drew ?_ | refine blk_alloc ?_ _)); refine blk_put (cs := #[.int .i64 ((rd_T44 l1 x8_2).f0), .int .i64 ((rd_T44 l1 x8_2).f1), .string (⟨#[]⟩ : ByteArray), .slice none 0 0]) ?_ 2 _ rfl; (with_reducible repeat (first | refine blk_drewN ?_ _ | refine blk_drew ?_ | refine blk_alloc ?_ _)); refine blk_put (cs := #[.int .i64 ((rd_T44 l1 x8_2).f0), .int .i64 0, .string (⟨#[]⟩ : ByteArray), .slice none 0 0]) ?_ 1 _ rfl; (with_reducible repeat (first | refine blk_drewN ?_ _ | refine blk_drew ?_ | refine blk_alloc ?_ _)); refine blk_put (cs := #[.int .i64 0, .int .i64 0, .string (⟨#[]⟩ : ByteArray), .slice none 0 0]) ?_ 0 _ rfl; (with_reducible repeat (first | refine blk_drewN ?_ _ | refine blk_drew ?_ | refine blk_alloc ?_ _)); exact BK306.out⟩, ⟨by repeat (first | (with_reducible first | exact HB.out | apply below_alloc | apply pw_below_drewN | apply below_drew1 | refine below_set ?_ GE306.out) | exact HB.out)⟩⟩
            ·rw [if_neg c20] at H
             have c20b0 : decide (1000 < (((rd_T44 l1 x8_2).f2).size : Int)) = false := decide_eq_false c20
             have c20b1 : decide (1000 < ((rd_T44 l1 x8_2).f2).size) = false := decide_eq_false (by omega)
             clear c20
             by_cases c22 : (((rd_T44 l1 x8_2).f3).length : Int) > 1000
             ·rw [if_pos c22] at H
              have c22b0 : decide (1000 < (((rd_T44 l1 x8_2).f3).length : Int)) = true := decide_eq_true c22
              have c22b1 : decide (1000 < ((rd_T44 l1 x8_2).f3).length) = true := decide_eq_true (by omega)
              clear c22
              have H' := Aside0.mk H
              clear H
              have hcz23_0 : w14.cell? ⟨gb306, 0, none⟩ = some (.int .i64 0) := (blk_cell BK306.out 0).trans rfl
              have hcz23_1 : w14.cell? ⟨gb306, 1, none⟩ = some (.int .i64 0) := (blk_cell BK306.out 1).trans rfl
              have hcz23_2 : w14.cell? ⟨gb306, 2, none⟩ = some (.string (⟨#[]⟩ : ByteArray)) := (blk_cell BK306.out 2).trans rfl
              have hcz23_3 : w14.cell? ⟨gb306, 3, none⟩ = some (.slice none 0 0) := (blk_cell BK306.out 3).trans rfl
              have hfz23_0 := blk_frozen BK306.out 0
              have hfz23_1 := blk_frozen BK306.out 1
              have hfz23_2 := blk_frozen BK306.out 2
              have hfz23_3 := blk_frozen BK306.out 3
              go_wp2
              go_meet
              case rel => exact ⟨_, (true), (by first | rfl | (simp; done) | (simp [*]; done)), H', ⟨by have := HJ5.out; have := HK2.out; first | omega | exact Nat.le_refl _⟩, ⟨by (with_reducible repeat (first | apply Kd.V_alloc | apply Kd.V_drewN | apply Kd.V_drew)); exact Kd.V_mono (Kd.V_far (p := ⟨gb306, 3, none⟩) (Kd.V_far (p := ⟨gb306, 2, none⟩) (Kd.V_far (p := ⟨gb306, 1, none⟩) (Kd.V_far (p := ⟨gb306, 0, none⟩) (Kd.V_mono HO_0.out (fun k_ hk => (⟨hk, hk.2⟩ : _ ∧ k_ ≠ gb306))) (fun _ hk => hk.2) (.int .i64 ((rd_T44 l1 x8_2).f0))) (fun _ hk => hk.2) (.int .i64 ((rd_T44 l1 x8_2).f1))) (fun _ hk => hk.2) (.string ((rd_T44 l1 x8_2).f2))) (fun _ hk => hk.2) (.slice A305_3 ((rd_T44 l1 x8_2).f3).length c305_3)) (fun _ hk => ⟨hk.1.1, hk.1.2⟩)⟩, ⟨by (with_reducible repeat (first | apply Kd.V_alloc | apply Kd.V_drewN | apply Kd.V_drew)); exact Kd.V_mono (Kd.V_far (p := ⟨gb306, 3, none⟩) (Kd.V_far (p := ⟨gb306, 2, none⟩) (Kd.V_far (p := ⟨gb306, 1, none⟩) (Kd.V_far (p := ⟨gb306, 0, none⟩) (Kd.V_mono HO_7.out (fun k_ hk => (⟨hk, hk.2⟩ : _ ∧ k_ ≠ gb306))) (fun _ hk => hk.2) (.int .i64 ((rd_T44 l1 x8_2).f0))) (fun _ hk => hk.2) (.int .i64 ((rd_T44 l1 x8_2).f1))) (fun _ hk => hk.2) (.string ((rd_T44 l1 x8_2).f2))) (fun _ hk => hk.2) (.slice A305_3 ((rd_T44 l1 x8_2).f3).length c305_3)) (fun _ hk => ⟨hk.1.1, hk.1.2⟩)⟩, ⟨by (with_reducible repeat (first | refine blk_drewN ?_ _ | refine blk_drew ?_ | refine blk_alloc ?_ _)); refine blk_put (cs := #[.int .i64 ((rd_T44 l1 x8_2).f0), .int .i64 ((rd_T44 l1 x8_2).f1), .string ((rd_T44 l1 x8_2).f2), .slice none 0 0]) ?_ 3 _ rfl; (with_reducible repeat (first | refine blk_drewN ?_ _ | refine blk_drew ?_ | refine blk_alloc ?_ _)); refine blk_put (cs := #[.int .i64 ((rd_T44 l1 x8_2).f0), .int .i64 ((rd_T44 l1 x8_2).f1), .string (⟨#[]⟩ : ByteArray), .slice none 0 0]) ?_ 2 _ rfl; (with_reducible repeat (first | refine blk_drewN ?_ _ | refine blk_drew ?_ | refine blk_alloc ?_ _)); refine blk_put (cs := #[.int .i64 ((rd_T44 l1 x8_2).f0), .int .i64 0, .string (⟨#[]⟩ : ByteArray), .slice none 0 0]) ?_ 1 _ rfl; (with_reducible repeat (first | refine blk_drewN ?_ _ | refine blk_drew ?_ | refine blk_alloc ?_ _)); refine blk_put (cs := #[.int .i64 0, .int .i64 0, .string (⟨#[]⟩ : ByteArray), .slice none 0 0]) ?_ 0 _ rfl; (with_reducible repeat (first | refine blk_drewN ?_ _ | refine blk_drew ?_ | refine blk_alloc ?_ _)); exact BK306.out⟩, ⟨by repeat (first | (with_reducible first | exact HB.out | apply below_alloc | apply pw_below_drewN | apply below_drew1 | refine below_set ?_ GE306.out) | exact HB.out)⟩⟩
             ·rw [if_neg c22] at H
              have c22b0 : decide (1000 < (((rd_T44 l1 x8_2).f3).length : Int)) = false := decide_eq_false c22
              have c22b1 : decide (1000 < ((rd_T44 l1 x8_2).f3).length) = false := decide_eq_false (by omega)
              clear c22
              by_cases c24 : (((rd_T44 l1 x8_2).f3).length : Int) > 0
              ·rw [if_pos c24] at H
               have c24b0 : decide (0 < (((rd_T44 l1 x8_2).f3).length : Int)) = true := decide_eq_true c24
               have c24b1 : decide (0 < ((rd_T44 l1 x8_2).f3).length) = true := decide_eq_true (by omega)
               clear c24
               obtain ⟨ji25, hji25⟩ : ∃ j_ : Int, (wrap64 ((((rd_T44 l1 x8_2).f3).length : Int) - 1)) = j_ := ⟨_, rfl⟩
               replace H : (if 0 ≤ (ji25) then (if (ji25) < (((rd_T44 l1 x8_2).f3).length : Int) then (codesearchlaw03_VarintBack.j2 k2 l0 l1 l2 x7_2 x8_2 (decide ((rd ((rd_T44 l1 x8_2).f3) (ji25)) > 4611686018427387904)) ((rd_T44 l1 x8_2).f0) ((rd_T44 l1 x8_2).f1) ((rd_T44 l1 x8_2).f2) ((rd_T44 l1 x8_2).f3)) else (none)) else (none)) = some r := by first | (rw [hji25] at H; exact H) | (simp only [hji25] at H ⊢; exact H)
               have hji25w : (IntKind.i64.wrap ((((rd_T44 l1 x8_2).f3).length : Int) - 1)) = ji25 := (i64_w _).trans hji25
               by_cases c26 : 0 ≤ (ji25)
               ·rw [if_pos c26] at H
                have c26b0 : decide (0 ≤ (ji25)) = true := decide_eq_true c26
                clear c26
                by_cases c27 : (ji25) < (((rd_T44 l1 x8_2).f3).length : Int)
                ·rw [if_pos c27] at H
                 have c27b0 : decide ((ji25) < (((rd_T44 l1 x8_2).f3).length : Int)) = true := decide_eq_true c27
                 clear c27
                 have H' := Aside0.mk H
                 clear H
                 have hcz28_0 : w14.cell? ⟨gb306, 0, none⟩ = some (.int .i64 0) := (blk_cell BK306.out 0).trans rfl
                 have hcz28_1 : w14.cell? ⟨gb306, 1, none⟩ = some (.int .i64 0) := (blk_cell BK306.out 1).trans rfl
                 have hcz28_2 : w14.cell? ⟨gb306, 2, none⟩ = some (.string (⟨#[]⟩ : ByteArray)) := (blk_cell BK306.out 2).trans rfl
                 have hcz28_3 : w14.cell? ⟨gb306, 3, none⟩ = some (.slice none 0 0) := (blk_cell BK306.out 3).trans rfl
                 have hfz28_0 := blk_frozen BK306.out 0
                 have hfz28_1 := blk_frozen BK306.out 1
                 have hfz28_2 := blk_frozen BK306.out 2
                 have hfz28_3 := blk_frozen BK306.out 3
                 have p307 : 0 ≤ ((ji25) : Int) := of_decide_eq_true (by first | (with_reducible assumption) | assumption)
                 have q307 : (ji25) < (((rd_T44 l1 x8_2).f3).length : Int) := of_decide_eq_true (by first | (with_reducible assumption) | assumption)
                 obtain ⟨ad307, e307, hx307_0⟩ := Kd.at_int HR305_3.out (ji25) p307 q307
                 cases e307
                 have hn307_0 : ad307.block ≠ gb306 := Nat.ne_of_lt (Nat.lt_of_lt_of_le (by have := World.block_lt_of_cell? _ _ hx307_0; first | rwa [add_block] at this | exact this) GW306.out)
                 have hn307_1 : ad307.block ≠ gb306 := Nat.ne_of_lt (Nat.lt_of_lt_of_le (by have := World.block_lt_of_cell? _ _ hx307_0; first | rwa [add_block] at this | exact this) GW306.out)
                 have hn307_2 : ad307.block ≠ gb306 := Nat.ne_of_lt (Nat.lt_of_lt_of_le (by have := World.block_lt_of_cell? _ _ hx307_0; first | rwa [add_block] at this | exact this) GW306.out)
                 have hn307_3 : ad307.block ≠ gb306 := Nat.ne_of_lt (Nat.lt_of_lt_of_le (by have := World.block_lt_of_cell? _ _ hx307_0; first | rwa [add_block] at this | exact this) GW306.out)
                 replace hx307_0 := (HB.out.cell (World.block_lt_of_cell? w _ hx307_0)).trans hx307_0
                 replace hx307_0 := (cell_far (p := ⟨gb306, 0, none⟩) (by first | (rw [add_block]; exact hn307_0) | (show (Addr.add _ _).block ≠ _; rw [add_block]; exact hn307_0) | exact hn307_0) (.int .i64 ((rd_T44 l1 x8_2).f0))).trans hx307_0
                 replace hx307_0 := (cell_far (p := ⟨gb306, 1, none⟩) (by first | (rw [add_block]; exact hn307_1) | (show (Addr.add _ _).block ≠ _; rw [add_block]; exact hn307_1) | exact hn307_1) (.int .i64 ((rd_T44 l1 x8_2).f1))).trans hx307_0
                 replace hx307_0 := (cell_far (p := ⟨gb306, 2, none⟩) (by first | (rw [add_block]; exact hn307_2) | (show (Addr.add _ _).block ≠ _; rw [add_block]; exact hn307_2) | exact hn307_2) (.string ((rd_T44 l1 x8_2).f2))).trans hx307_0
                 replace hx307_0 := (cell_far (p := ⟨gb306, 3, none⟩) (by first | (rw [add_block]; exact hn307_3) | (show (Addr.add _ _).block ≠ _; rw [add_block]; exact hn307_3) | exact hn307_3) (.slice (some ad307) ((rd_T44 l1 x8_2).f3).length c305_3)).trans hx307_0
                 clear hn307_0
                 clear hn307_1
                 clear hn307_2
                 clear hn307_3
                 replace p307 := eq_true p307
                 replace q307 := eq_true q307
                 go_wp2
                 go_meet
                 case rel => exact ⟨_, (decide ((rd ((rd_T44 l1 x8_2).f3) (ji25)) > 4611686018427387904)), (by first | rfl | (simp; done) | (rw [Int.tdiv_eq_ediv_of_nonneg (by assumption)]; done) | (rw [Int.tmod_eq_emod_of_nonneg (by assumption)]; done) | (simp only [← hji25] <;> (first | rfl | simp)) | (simp [*]; done)), H', ⟨by have := HJ5.out; have := HK2.out; first | omega | exact Nat.le_refl _⟩, ⟨by (with_reducible repeat (first | apply Kd.V_alloc | apply Kd.V_drewN | apply Kd.V_drew)); exact Kd.V_mono (Kd.V_far (p := ⟨gb306, 3, none⟩) (Kd.V_far (p := ⟨gb306, 2, none⟩) (Kd.V_far (p := ⟨gb306, 1, none⟩) (Kd.V_far (p := ⟨gb306, 0, none⟩) (Kd.V_mono HO_0.out (fun k_ hk => (⟨hk, hk.2⟩ : _ ∧ k_ ≠ gb306))) (fun _ hk => hk.2) (.int .i64 ((rd_T44 l1 x8_2).f0))) (fun _ hk => hk.2) (.int .i64 ((rd_T44 l1 x8_2).f1))) (fun _ hk => hk.2) (.string ((rd_T44 l1 x8_2).f2))) (fun _ hk => hk.2) (.slice (some ad307) ((rd_T44 l1 x8_2).f3).length c305_3)) (fun _ hk => ⟨hk.1.1, hk.1.2⟩)⟩, ⟨by (with_reducible repeat (first | apply Kd.V_alloc | apply Kd.V_drewN | apply Kd.V_drew)); exact Kd.V_mono (Kd.V_far (p := ⟨gb306, 3, none⟩) (Kd.V_far (p := ⟨gb306, 2, none⟩) (Kd.V_far (p := ⟨gb306, 1, none⟩) (Kd.V_far (p := ⟨gb306, 0, none⟩) (Kd.V_mono HO_7.out (fun k_ hk => (⟨hk, hk.2⟩ : _ ∧ k_ ≠ gb306))) (fun _ hk => hk.2) (.int .i64 ((rd_T44 l1 x8_2).f0))) (fun _ hk => hk.2) (.int .i64 ((rd_T44 l1 x8_2).f1))) (fun _ hk => hk.2) (.string ((rd_T44 l1 x8_2).f2))) (fun _ hk => hk.2) (.slice (some ad307) ((rd_T44 l1 x8_2).f3).length c305_3)) (fun _ hk => ⟨hk.1.1, hk.1.2⟩)⟩, ⟨by (with_reducible repeat (first | refine blk_drewN ?_ _ | refine blk_drew ?_ | refine blk_alloc ?_ _)); refine blk_put (cs := #[.int .i64 ((rd_T44 l1 x8_2).f0), .int .i64 ((rd_T44 l1 x8_2).f1), .string ((rd_T44 l1 x8_2).f2), .slice none 0 0]) ?_ 3 _ rfl; (with_reducible repeat (first | refine blk_drewN ?_ _ | refine blk_drew ?_ | refine blk_alloc ?_ _)); refine blk_put (cs := #[.int .i64 ((rd_T44 l1 x8_2).f0), .int .i64 ((rd_T44 l1 x8_2).f1), .string (⟨#[]⟩ : ByteArray), .slice none 0 0]) ?_ 2 _ rfl; (with_reducible repeat (first | refine blk_drewN ?_ _ | refine blk_drew ?_ | refine blk_alloc ?_ _)); refine blk_put (cs := #[.int .i64 ((rd_T44 l1 x8_2).f0), .int .i64 0, .string (⟨#[]⟩ : ByteArray), .slice none 0 0]) ?_ 1 _ rfl; (with_reducible repeat (first | refine blk_drewN ?_ _ | refine blk_drew ?_ | refine blk_alloc ?_ _)); refine blk_put (cs := #[.int .i64 0, .int .i64 0, .string (⟨#[]⟩ : ByteArray), .slice none 0 0]) ?_ 0 _ rfl; (with_reducible repeat (first | refine blk_drewN ?_ _ | refine blk_drew ?_ | refine blk_alloc ?_ _)); exact BK306.out⟩, ⟨by repeat (first | (with_reducible first | exact HB.out | apply below_alloc | apply pw_below_drewN | apply below_drew1 | refine below_set ?_ GE306.out) | exact HB.out)⟩⟩
                ·rw [if_neg c27] at H
                 exact absurd H (by simp)
               ·rw [if_neg c26] at H
                exact absurd H (by simp)
              ·rw [if_neg c24] at H
               have c24b0 : decide (0 < (((rd_T44 l1 x8_2).f3).length : Int)) = false := decide_eq_false c24
               have c24b1 : decide (0 < ((rd_T44 l1 x8_2).f3).length) = false := decide_eq_false (by omega)
               clear c24
               have H' := Aside0.mk H
               clear H
               have hcz29_0 : w14.cell? ⟨gb306, 0, none⟩ = some (.int .i64 0) := (blk_cell BK306.out 0).trans rfl
               have hcz29_1 : w14.cell? ⟨gb306, 1, none⟩ = some (.int .i64 0) := (blk_cell BK306.out 1).trans rfl
               have hcz29_2 : w14.cell? ⟨gb306, 2, none⟩ = some (.string (⟨#[]⟩ : ByteArray)) := (blk_cell BK306.out 2).trans rfl
               have hcz29_3 : w14.cell? ⟨gb306, 3, none⟩ = some (.slice none 0 0) := (blk_cell BK306.out 3).trans rfl
               have hfz29_0 := blk_frozen BK306.out 0
               have hfz29_1 := blk_frozen BK306.out 1
               have hfz29_2 := blk_frozen BK306.out 2
               have hfz29_3 := blk_frozen BK306.out 3
               go_wp2
               go_meet
               case rel => exact ⟨_, (false), (by first | rfl | (simp; done) | (simp [*]; done)), H', ⟨by have := HJ5.out; have := HK2.out; first | omega | exact Nat.le_refl _⟩, ⟨by (with_reducible repeat (first | apply Kd.V_alloc | apply Kd.V_drewN | apply Kd.V_drew)); exact Kd.V_mono (Kd.V_far (p := ⟨gb306, 3, none⟩) (Kd.V_far (p := ⟨gb306, 2, none⟩) (Kd.V_far (p := ⟨gb306, 1, none⟩) (Kd.V_far (p := ⟨gb306, 0, none⟩) (Kd.V_mono HO_0.out (fun k_ hk => (⟨hk, hk.2⟩ : _ ∧ k_ ≠ gb306))) (fun _ hk => hk.2) (.int .i64 ((rd_T44 l1 x8_2).f0))) (fun _ hk => hk.2) (.int .i64 ((rd_T44 l1 x8_2).f1))) (fun _ hk => hk.2) (.string ((rd_T44 l1 x8_2).f2))) (fun _ hk => hk.2) (.slice A305_3 ((rd_T44 l1 x8_2).f3).length c305_3)) (fun _ hk => ⟨hk.1.1, hk.1.2⟩)⟩, ⟨by (with_reducible repeat (first | apply Kd.V_alloc | apply Kd.V_drewN | apply Kd.V_drew)); exact Kd.V_mono (Kd.V_far (p := ⟨gb306, 3, none⟩) (Kd.V_far (p := ⟨gb306, 2, none⟩) (Kd.V_far (p := ⟨gb306, 1, none⟩) (Kd.V_far (p := ⟨gb306, 0, none⟩) (Kd.V_mono HO_7.out (fun k_ hk => (⟨hk, hk.2⟩ : _ ∧ k_ ≠ gb306))) (fun _ hk => hk.2) (.int .i64 ((rd_T44 l1 x8_2).f0))) (fun _ hk => hk.2) (.int .i64 ((rd_T44 l1 x8_2).f1))) (fun _ hk => hk.2) (.string ((rd_T44 l1 x8_2).f2))) (fun _ hk => hk.2) (.slice A305_3 ((rd_T44 l1 x8_2).f3).length c305_3)) (fun _ hk => ⟨hk.1.1, hk.1.2⟩)⟩, ⟨by (with_reducible repeat (first | refine blk_drewN ?_ _ | refine blk_drew ?_ | refine blk_alloc ?_ _)); refine blk_put (cs := #[.int .i64 ((rd_T44 l1 x8_2).f0), .int .i64 ((rd_T44 l1 x8_2).f1), .string ((rd_T44 l1 x8_2).f2), .slice none 0 0]) ?_ 3 _ rfl; (with_reducible repeat (first | refine blk_drewN ?_ _ | refine blk_drew ?_ | refine blk_alloc ?_ _)); refine blk_put (cs := #[.int .i64 ((rd_T44 l1 x8_2).f0), .int .i64 ((rd_T44 l1 x8_2).f1), .string (⟨#[]⟩ : ByteArray), .slice none 0 0]) ?_ 2 _ rfl; (with_reducible repeat (first | refine blk_drewN ?_ _ | refine blk_drew ?_ | refine blk_alloc ?_ _)); refine blk_put (cs := #[.int .i64 ((rd_T44 l1 x8_2).f0), .int .i64 0, .string (⟨#[]⟩ : ByteArray), .slice none 0 0]) ?_ 1 _ rfl; (with_reducible repeat (first | refine blk_drewN ?_ _ | refine blk_drew ?_ | refine blk_alloc ?_ _)); refine blk_put (cs := #[.int .i64 0, .int .i64 0, .string (⟨#[]⟩ : ByteArray), .slice none 0 0]) ?_ 0 _ rfl; (with_reducible repeat (first | refine blk_drewN ?_ _ | refine blk_drew ?_ | refine blk_alloc ?_ _)); exact BK306.out⟩, ⟨by repeat (first | (with_reducible first | exact HB.out | apply below_alloc | apply pw_below_drewN | apply below_drew1 | refine below_set ?_ GE306.out) | exact HB.out)⟩⟩
         case rest =>
          clear HC13
          try clear c1
          try clear c2
          try clear p2
          try clear c3
          try clear p3
          try clear q3
          try clear hx3
          try clear c5
          try clear p6
          try clear c8
          try clear c8b0
          try clear c8b1
          try clear c9
          try clear c9b0
          try clear c9b1
          try clear c10
          try clear c11
          try clear c11b0
          try clear c12
          try clear c12b0
          try clear c15
          try clear c16
          try clear c16b0
          try clear c18
          try clear c18b0
          try clear c20
          try clear c20b0
          try clear c20b1
          try clear c22
          try clear c22b0
          try clear c22b1
          try clear c24
          try clear c24b0
          try clear c24b1
          try clear c26
          try clear c26b0
          try clear c27
          try clear c27b0
          try clear hcz15_0
          try clear hcz15_1
          try clear hcz15_2
          try clear hcz15_3
          try clear hcz17_0
          try clear hcz17_1
          try clear hcz17_2
          try clear hcz17_3
          try clear hcz19_0
          try clear hcz19_1
          try clear hcz19_2
          try clear hcz19_3
          try clear hcz21_0
          try clear hcz21_1
          try clear hcz21_2
          try clear hcz21_3
          try clear hcz23_0
          try clear hcz23_1
          try clear hcz23_2
          try clear hcz23_3
          try clear hcz28_0
          try clear hcz28_1
          try clear hcz28_2
          try clear hcz28_3
          try clear hcz29_0
          try clear hcz29_1
          try clear hcz29_2
          try clear hcz29_3
          try clear hfz15_0
          try clear hfz15_1
          try clear hfz15_2
          try clear hfz15_3
          try clear hfz17_0
          try clear hfz17_1
          try clear hfz17_2
          try clear hfz17_3
          try clear hfz19_0
          try clear hfz19_1
          try clear hfz19_2
          try clear hfz19_3
          try clear hfz21_0
          try clear hfz21_1
          try clear hfz21_2
          try clear hfz21_3
          try clear hfz23_0
          try clear hfz23_1
          try clear hfz23_2
          try clear hfz23_3
          try clear hfz28_0
          try clear hfz28_1
          try clear hfz28_2
          try clear hfz28_3
          try clear hfz29_0
          try clear hfz29_1
          try clear hfz29_2
          try clear hfz29_3
          try clear hx305_0
          try clear hx305_1
          try clear hx305_2
          try clear hx305_3
          try clear hx307_0
          try clear p2
          try clear p305
          try clear p307
          try clear q305
          try clear q307
          obtain ⟨kq, x87_12, rfl, HA, HJ12, HO_0, HO_7, BK306, HB⟩ := hcut
          cases kq with
          | zero => exact absurd HA.out (by simp [codesearchlaw03_VarintBack.j2])
          | succ kj12 =>
           have H := HA.out
           clear HA
           simp only [codesearchlaw03_VarintBack.j2] at H
           by_cases c30 : x87_12 = true
           ·subst c30
            have H1 : (some true) = some r := by rw [if_pos rfl] at H; exact H
            clear H
            have H := H1
            clear H1
            obtain rfl := Option.some.inj H
            go_wp2
            go_ret
            exact ⟨by first | rfl | (simp [errW_none, errW_some] <;> rfl) | (simp [*, errW_none, errW_some] <;> rfl), by repeat (first | (with_reducible first | exact HB.out | apply below_alloc | apply pw_below_drewN | apply below_drew1 | refine below_set ?_ GE306.out) | exact HB.out)⟩
           ·replace c30 := Bool.eq_false_iff.mpr c30
            subst c30
            have H1 : (if (Int.tmod ((rd_T44 l1 x8_2).f0) 3) = 0 then ((varint_Put.f x7_2 ((rd_T44 l1 x8_2).f1)).bind fun t308 => (codesearchlaw03_VarintBack.l0 kj12 l0 l1 l2 t308 (wrap64 (x8_2 + 1)))) else (if (Int.tmod ((rd_T44 l1 x8_2).f0) 3) = 1 then ((varint_PutString.f x7_2 ((rd_T44 l1 x8_2).f2)).bind fun t311 => (codesearchlaw03_VarintBack.l0 kj12 l0 l1 l2 t311 (wrap64 (x8_2 + 1)))) else ((varint_PutList.f kj12 x7_2 ((rd_T44 l1 x8_2).f3)).bind fun bt314 => (if bt314.2 = 0 then (codesearchlaw03_VarintBack.l0 kj12 l0 l1 l2 bt314.1 (wrap64 (x8_2 + 1))) else (some true))))) = some r := by rw [if_neg (show ¬ (false = true) by decide)] at H; exact H
            clear H
            have H := H1
            clear H1
            by_cases c31 : (Int.tmod ((rd_T44 l1 x8_2).f0) 3) = 0
            ·rw [if_pos c31] at H
             have c31b0 : ((Int.tmod ((rd_T44 l1 x8_2).f0) 3) == 0) = true := beq_iff_eq.mpr c31
             have c31b1 : ((Int.tmod ((rd_T44 l1 x8_2).f0) 3) != 0) = false := bne_eq_false_iff_eq.mpr c31
             clear c31
             replace H := Option.bind_eq_some_iff.mp H
             obtain ⟨t308, A320, H⟩ := H
             replace H : (codesearchlaw03_VarintBack.l0 kj12 l0 l1 l2 t308 (wrap64 (x8_2 + 1))) = some r := H
             have A32 := Aside0.mk A320
             clear A320
             have H' := Aside0.mk H
             clear H
             have hcz33_0 : wc.cell? ⟨gb306, 0, none⟩ = some (.int .i64 ((rd_T44 l1 x8_2).f0)) := (blk_cell BK306.out 0).trans rfl
             have hcz33_1 : wc.cell? ⟨gb306, 1, none⟩ = some (.int .i64 ((rd_T44 l1 x8_2).f1)) := (blk_cell BK306.out 1).trans rfl
             have hcz33_2 : wc.cell? ⟨gb306, 2, none⟩ = some (.string ((rd_T44 l1 x8_2).f2)) := (blk_cell BK306.out 2).trans rfl
             have hcz33_3 : wc.cell? ⟨gb306, 3, none⟩ = some (.slice A305_3 ((rd_T44 l1 x8_2).f3).length c305_3) := (blk_cell BK306.out 3).trans rfl
             have hfz33_0 := blk_frozen BK306.out 0
             have hfz33_1 := blk_frozen BK306.out 1
             have hfz33_2 := blk_frozen BK306.out 2
             have hfz33_3 := blk_frozen BK306.out 3
             obtain ⟨Ao34, co34, eo34⟩ := Kd.V_slice HO_7.out
             subst eo34
             go_wp2_with (first | ((with_reducible refine gate_callee (f := 17) rfl ?_); refine goesL_ (some 95) rfl rfl Try.func17 (by kernel_rfl) rfl #[.slice Ao34 x7_2.length co34, .int .i64 ((rd_T44 l1 x8_2).f1)] rfl (by (try simp only [List.map_toArray, List.map_cons, List.map_nil]); first | done | rfl | (simp only [List.length_drop, List.length_take]; rfl)) ?_; (with_reducible refine (varint_Put.calls _ _ x7_2 ((rd_T44 l1 x8_2).f1) t308 _ ?side1 ?side2 A32.out).mono ?_); (case side1 => repeat (first | exact (Kd.V_reads' HO_7.out).2.2 | (with_reducible refine Kd.C_alloc ?_ _) | (with_reducible refine Kd.C_drewN ?_ _) | (with_reducible refine Kd.C_drew ?_))); (case side2 => exact (Kd.V_reads' HO_7.out).2.1); rintro e w35 ⟨v309, rfl, ho0, hb⟩; refine ⟨_, rfl, ?_⟩; have n0_ := Aside0.mk (Kd.V_elder' (by (with_reducible repeat (first | apply Kd.V_alloc | apply Kd.V_drewN | apply Kd.V_drew)); exact HO_0.out) (Kd.R_base ho0) hb); have n1_ := Aside0.mk (Kd.V_elder' (by (with_reducible repeat (first | apply Kd.V_alloc | apply Kd.V_drewN | apply Kd.V_drew)); exact HO_7.out) (Kd.R_base ho0) hb); have n2_ := Aside0.mk (Kd.R_lower (Kd.R_newM (M := fun k_ => (w.heap.size ≤ k_)) ho0 (below_size (by repeat (first | (with_reducible first | exact HB.out | apply below_alloc | apply pw_below_drewN | apply below_drew1 | refine below_set ?_ GE306.out) | exact HB.out))) (fun k_ h_ => h_)) (below_size (by repeat (first | (with_reducible first | exact HB.out | apply below_alloc | apply pw_below_drewN | apply below_drew1 | refine below_set ?_ GE306.out) | exact HB.out)))); have n3_ := Aside0.mk (blk_below (g := gb306) (o := .cells #[.int .i64 ((rd_T44 l1 x8_2).f0), .int .i64 ((rd_T44 l1 x8_2).f1), .string ((rd_T44 l1 x8_2).f2), .slice A305_3 ((rd_T44 l1 x8_2).f3).length c305_3] 44 (0, 0)) (by (with_reducible repeat (first | refine blk_drewN ?_ _ | refine blk_drew ?_ | refine blk_alloc ?_ _)); exact BK306.out) hb); have n4_ := Aside0.mk (below_step (by repeat (first | (with_reducible first | exact HB.out | apply below_alloc | apply pw_below_drewN | apply below_drew1 | refine below_set ?_ GE306.out) | exact HB.out)) hb); clear HO_0; clear HO_7; clear BK306; clear HB; have HO_0 := n0_; have HO_7 := n1_; have HO310 := n2_; have BK306 := n3_; have HB := n4_; clear n0_ n1_ n2_ n3_ n4_; (try clear hb); (try clear hb2); (try clear hk); (try clear hi); (try clear ho0)))
             go_roundg kj12
             case measure => have := HJ5.out; have := HK2.out; have := HJ12.out; omega
             case rel => exact ⟨(t308), (wrap64 (x8_2 + 1)), (by first | rfl | (simp; done) | (simp [*]; done)), H', ⟨by have := HJ5.out; have := HK2.out; have := HJ12.out; omega⟩, ⟨by (with_reducible repeat (first | apply Kd.V_alloc | apply Kd.V_drewN | apply Kd.V_drew)); exact Kd.V_mono HO_0.out (fun _ hk => hk.1.1)⟩, ⟨Kd.V_mono (Kd.R_V (by (with_reducible repeat (first | apply Kd.R_alloc | apply Kd.R_drewN | apply Kd.R_drew)); exact Kd.R_mono HO310.out (fun _ hk => hk.1))) (fun k_ hk => by first | exact ⟨(.inr (hk.1)), hk.2⟩ | exact (.inr (hk)))⟩, ⟨by repeat (first | (with_reducible first | exact HB.out | apply below_alloc | apply pw_below_drewN | apply below_drew1 | refine below_set ?_ GE306.out) | exact HB.out)⟩⟩
            ·rw [if_neg c31] at H
             have c31b0 : ((Int.tmod ((rd_T44 l1 x8_2).f0) 3) == 0) = false := beq_eq_false_iff_ne.mpr c31
             have c31b1 : ((Int.tmod ((rd_T44 l1 x8_2).f0) 3) != 0) = true := bne_iff_ne.mpr c31
             by_cases c36 : (Int.tmod ((rd_T44 l1 x8_2).f0) 3) = 1
             ·rw [if_pos c36] at H
              have c36b0 : ((Int.tmod ((rd_T44 l1 x8_2).f0) 3) == 1) = true := beq_iff_eq.mpr c36
              have c36b1 : ((Int.tmod ((rd_T44 l1 x8_2).f0) 3) != 1) = false := bne_eq_false_iff_eq.mpr c36
              clear c36
              replace H := Option.bind_eq_some_iff.mp H
              obtain ⟨t311, A370, H⟩ := H
              replace H : (codesearchlaw03_VarintBack.l0 kj12 l0 l1 l2 t311 (wrap64 (x8_2 + 1))) = some r := H
              have A37 := Aside0.mk A370
              clear A370
              have H' := Aside0.mk H
              clear H
              have hcz38_0 : wc.cell? ⟨gb306, 0, none⟩ = some (.int .i64 ((rd_T44 l1 x8_2).f0)) := (blk_cell BK306.out 0).trans rfl
              have hcz38_1 : wc.cell? ⟨gb306, 1, none⟩ = some (.int .i64 ((rd_T44 l1 x8_2).f1)) := (blk_cell BK306.out 1).trans rfl
              have hcz38_2 : wc.cell? ⟨gb306, 2, none⟩ = some (.string ((rd_T44 l1 x8_2).f2)) := (blk_cell BK306.out 2).trans rfl
              have hcz38_3 : wc.cell? ⟨gb306, 3, none⟩ = some (.slice A305_3 ((rd_T44 l1 x8_2).f3).length c305_3) := (blk_cell BK306.out 3).trans rfl
              have hfz38_0 := blk_frozen BK306.out 0
              have hfz38_1 := blk_frozen BK306.out 1
              have hfz38_2 := blk_frozen BK306.out 2
              have hfz38_3 := blk_frozen BK306.out 3
              obtain ⟨Ao39, co39, eo39⟩ := Kd.V_slice HO_7.out
              subst eo39
              go_wp2_with (first | ((with_reducible refine gate_callee (f := 19) rfl ?_); refine goesL_ (some 103) rfl rfl Try.func19 (by kernel_rfl) rfl #[.slice Ao39 x7_2.length co39, .string ((rd_T44 l1 x8_2).f2)] rfl (by (try simp only [List.map_toArray, List.map_cons, List.map_nil]); first | done | rfl | (simp only [List.length_drop, List.length_take]; rfl)) ?_; (with_reducible refine (varint_PutString.calls _ _ x7_2 ((rd_T44 l1 x8_2).f2) t311 _ ?side1 ?side2 A37.out).mono ?_); (case side1 => repeat (first | exact (Kd.V_reads' HO_7.out).2.2 | (with_reducible refine Kd.C_alloc ?_ _) | (with_reducible refine Kd.C_drewN ?_ _) | (with_reducible refine Kd.C_drew ?_))); (case side2 => exact (Kd.V_reads' HO_7.out).2.1); rintro e w40 ⟨v312, rfl, ho0, hb⟩; refine ⟨_, rfl, ?_⟩; have n0_ := Aside0.mk (Kd.V_elder' (by (with_reducible repeat (first | apply Kd.V_alloc | apply Kd.V_drewN | apply Kd.V_drew)); exact HO_0.out) (Kd.R_base ho0) hb); have n1_ := Aside0.mk (Kd.V_elder' (by (with_reducible repeat (first | apply Kd.V_alloc | apply Kd.V_drewN | apply Kd.V_drew)); exact HO_7.out) (Kd.R_base ho0) hb); have n2_ := Aside0.mk (Kd.R_lower (Kd.R_newM (M := fun k_ => (w.heap.size ≤ k_)) ho0 (below_size (by repeat (first | (with_reducible first | exact HB.out | apply below_alloc | apply pw_below_drewN | apply below_drew1 | refine below_set ?_ GE306.out) | exact HB.out))) (fun k_ h_ => h_)) (below_size (by repeat (first | (with_reducible first | exact HB.out | apply below_alloc | apply pw_below_drewN | apply below_drew1 | refine below_set ?_ GE306.out) | exact HB.out)))); have n3_ := Aside0.mk (blk_below (g := gb306) (o := .cells #[.int .i64 ((rd_T44 l1 x8_2).f0), .int .i64 ((rd_T44 l1 x8_2).f1), .string ((rd_T44 l1 x8_2).f2), .slice A305_3 ((rd_T44 l1 x8_2).f3).length c305_3] 44 (0, 0)) (by (with_reducible repeat (first | refine blk_drewN ?_ _ | refine blk_drew ?_ | refine blk_alloc ?_ _)); exact BK306.out) hb); have n4_ := Aside0.mk (below_step (by repeat (first | (with_reducible first | exact HB.out | apply below_alloc | apply pw_below_drewN | apply below_drew1 | refine below_set ?_ GE306.out) | exact HB.out)) hb); clear HO_0; clear HO_7; clear BK306; clear HB; have HO_0 := n0_; have HO_7 := n1_; have HO313 := n2_; have BK306 := n3_; have HB := n4_; clear n0_ n1_ n2_ n3_ n4_; (try clear hb); (try clear hb2); (try clear hk); (try clear hi); (try clear ho0)))
              go_roundg kj12
              case measure => have := HJ5.out; have := HK2.out; have := HJ12.out; omega
              case rel => exact ⟨(t311), (wrap64 (x8_2 + 1)), (by first | rfl | (simp; done) | (simp [*]; done)), H', ⟨by have := HJ5.out; have := HK2.out; have := HJ12.out; omega⟩, ⟨by (with_reducible repeat (first | apply Kd.V_alloc | apply Kd.V_drewN | apply Kd.V_drew)); exact Kd.V_mono HO_0.out (fun _ hk => hk.1.1)⟩, ⟨Kd.V_mono (Kd.R_V (by (with_reducible repeat (first | apply Kd.R_alloc | apply Kd.R_drewN | apply Kd.R_drew)); exact Kd.R_mono HO313.out (fun _ hk => hk.1))) (fun k_ hk => by first | exact ⟨(.inr (hk.1)), hk.2⟩ | exact (.inr (hk)))⟩, ⟨by repeat (first | (with_reducible first | exact HB.out | apply below_alloc | apply pw_below_drewN | apply below_drew1 | refine below_set ?_ GE306.out) | exact HB.out)⟩⟩
             ·rw [if_neg c36] at H
              have c36b0 : ((Int.tmod ((rd_T44 l1 x8_2).f0) 3) == 1) = false := beq_eq_false_iff_ne.mpr c36
              have c36b1 : ((Int.tmod ((rd_T44 l1 x8_2).f0) 3) != 1) = true := bne_iff_ne.mpr c36
              replace H := Option.bind_eq_some_iff.mp H
              obtain ⟨⟨t314, t315⟩, A410, H⟩ := H
              replace H : (if t315 = 0 then (codesearchlaw03_VarintBack.l0 kj12 l0 l1 l2 t314 (wrap64 (x8_2 + 1))) else (some true)) = some r := H
              have A41 := Aside0.mk A410
              clear A410
              by_cases c42 : t315 = 0
              ·rw [if_pos c42] at H
               have c42b0 : (t315 == 0) = true := beq_iff_eq.mpr c42
               have c42b1 : (t315 != 0) = false := bne_eq_false_iff_eq.mpr c42
               clear c42
               have H' := Aside0.mk H
               clear H
               have hcz43_0 : wc.cell? ⟨gb306, 0, none⟩ = some (.int .i64 ((rd_T44 l1 x8_2).f0)) := (blk_cell BK306.out 0).trans rfl
               have hcz43_1 : wc.cell? ⟨gb306, 1, none⟩ = some (.int .i64 ((rd_T44 l1 x8_2).f1)) := (blk_cell BK306.out 1).trans rfl
               have hcz43_2 : wc.cell? ⟨gb306, 2, none⟩ = some (.string ((rd_T44 l1 x8_2).f2)) := (blk_cell BK306.out 2).trans rfl
               have hcz43_3 : wc.cell? ⟨gb306, 3, none⟩ = some (.slice A305_3 ((rd_T44 l1 x8_2).f3).length c305_3) := (blk_cell BK306.out 3).trans rfl
               have hfz43_0 := blk_frozen BK306.out 0
               have hfz43_1 := blk_frozen BK306.out 1
               have hfz43_2 := blk_frozen BK306.out 2
               have hfz43_3 := blk_frozen BK306.out 3
               obtain ⟨Ao44, co44, eo44⟩ := Kd.V_slice HO_7.out
               subst eo44
               go_wp2_with (first | ((with_reducible refine gate_callee (f := 23) rfl ?_); refine goesL_ (some 108) rfl rfl Try.func23 (by kernel_rfl) rfl #[.slice Ao44 x7_2.length co44, .slice A305_3 ((rd_T44 l1 x8_2).f3).length c305_3] rfl (by (try simp only [List.map_toArray, List.map_cons, List.map_nil]); first | done | rfl | (simp only [List.length_drop, List.length_take]; rfl)) ?_; (with_reducible refine (varint_PutList.calls kj12 _ _ x7_2 _ _ ((rd_T44 l1 x8_2).f3) t314 t315 _ ?side1 ?side2 ?side3 ?side4 A41.out).mono ?_); (case side1 => repeat (first | exact (Kd.V_reads' HO_7.out).2.2 | (with_reducible refine Kd.C_alloc ?_ _) | (with_reducible refine Kd.C_drewN ?_ _) | (with_reducible refine Kd.C_drew ?_))); (case side2 => exact (Kd.V_reads' HO_7.out).2.1); (case side3 => repeat (first | exact (Kd.C_below HR305_3.out HB.out) | (with_reducible refine Kd.C_alloc ?_ _) | (with_reducible refine Kd.C_drewN ?_ _) | (with_reducible refine Kd.C_drew ?_))); (case side4 => exact HC305_3.out); rintro e w45 ⟨v316, rfl, ho0, hb⟩; refine ⟨_, rfl, ?_⟩; have n0_ := Aside0.mk (Kd.V_elder' (by (with_reducible repeat (first | apply Kd.V_alloc | apply Kd.V_drewN | apply Kd.V_drew)); exact HO_0.out) (Kd.R_base ho0) hb); have n1_ := Aside0.mk (Kd.V_elder' (by (with_reducible repeat (first | apply Kd.V_alloc | apply Kd.V_drewN | apply Kd.V_drew)); exact HO_7.out) (Kd.R_base ho0) hb); have n2_ := Aside0.mk (Kd.R_lower (Kd.R_newM (M := fun k_ => (w.heap.size ≤ k_)) ho0 (below_size (by repeat (first | (with_reducible first | exact HB.out | apply below_alloc | apply pw_below_drewN | apply below_drew1 | refine below_set ?_ GE306.out) | exact HB.out))) (fun k_ h_ => h_)) (below_size (by repeat (first | (with_reducible first | exact HB.out | apply below_alloc | apply pw_below_drewN | apply below_drew1 | refine below_set ?_ GE306.out) | exact HB.out)))); have n3_ := Aside0.mk (blk_below (g := gb306) (o := .cells #[.int .i64 ((rd_T44 l1 x8_2).f0), .int .i64 ((rd_T44 l1 x8_2).f1), .string ((rd_T44 l1 x8_2).f2), .slice A305_3 ((rd_T44 l1 x8_2).f3).length c305_3] 44 (0, 0)) (by (with_reducible repeat (first | refine blk_drewN ?_ _ | refine blk_drew ?_ | refine blk_alloc ?_ _)); exact BK306.out) hb); have n4_ := Aside0.mk (below_step (by repeat (first | (with_reducible first | exact HB.out | apply below_alloc | apply pw_below_drewN | apply below_drew1 | refine below_set ?_ GE306.out) | exact HB.out)) hb); clear HO_0; clear HO_7; clear BK306; clear HB; have HO_0 := n0_; have HO_7 := n1_; have HO317 := n2_; have BK306 := n3_; have HB := n4_; clear n0_ n1_ n2_ n3_ n4_; (try clear hb); (try clear hb2); (try clear hk); (try clear hi); (try clear ho0)))
               go_roundg kj12
               case measure => have := HJ5.out; have := HK2.out; have := HJ12.out; omega
               case rel => exact ⟨(t314), (wrap64 (x8_2 + 1)), (by first | rfl | (simp; done) | (simp [*]; done)), H', ⟨by have := HJ5.out; have := HK2.out; have := HJ12.out; omega⟩, ⟨by (with_reducible repeat (first | apply Kd.V_alloc | apply Kd.V_drewN | apply Kd.V_drew)); exact Kd.V_mono HO_0.out (fun _ hk => hk.1.1)⟩, ⟨Kd.V_mono (Kd.R_V (by (with_reducible repeat (first | apply Kd.R_alloc | apply Kd.R_drewN | apply Kd.R_drew)); exact Kd.R_mono HO317.out (fun _ hk => hk.1))) (fun k_ hk => by first | exact ⟨(.inr (hk.1)), hk.2⟩ | exact (.inr (hk)))⟩, ⟨by repeat (first | (with_reducible first | exact HB.out | apply below_alloc | apply pw_below_drewN | apply below_drew1 | refine below_set ?_ GE306.out) | exact HB.out)⟩⟩
              ·rw [if_neg c42] at H
               have c42b0 : (t315 == 0) = false := beq_eq_false_iff_ne.mpr c42
               have c42b1 : (t315 != 0) = true := bne_iff_ne.mpr c42
               obtain rfl := Option.some.inj H
               have hcz46_0 : wc.cell? ⟨gb306, 0, none⟩ = some (.int .i64 ((rd_T44 l1 x8_2).f0)) := (blk_cell BK306.out 0).trans rfl
               have hcz46_1 : wc.cell? ⟨gb306, 1, none⟩ = some (.int .i64 ((rd_T44 l1 x8_2).f1)) := (blk_cell BK306.out 1).trans rfl
               have hcz46_2 : wc.cell? ⟨gb306, 2, none⟩ = some (.string ((rd_T44 l1 x8_2).f2)) := (blk_cell BK306.out 2).trans rfl
               have hcz46_3 : wc.cell? ⟨gb306, 3, none⟩ = some (.slice A305_3 ((rd_T44 l1 x8_2).f3).length c305_3) := (blk_cell BK306.out 3).trans rfl
               have hfz46_0 := blk_frozen BK306.out 0
               have hfz46_1 := blk_frozen BK306.out 1
               have hfz46_2 := blk_frozen BK306.out 2
               have hfz46_3 := blk_frozen BK306.out 3
               obtain ⟨Ao47, co47, eo47⟩ := Kd.V_slice HO_7.out
               subst eo47
               go_wp2_with (first | ((with_reducible refine gate_callee (f := 23) rfl ?_); refine goesL_ (some 108) rfl rfl Try.func23 (by kernel_rfl) rfl #[.slice Ao47 x7_2.length co47, .slice A305_3 ((rd_T44 l1 x8_2).f3).length c305_3] rfl (by (try simp only [List.map_toArray, List.map_cons, List.map_nil]); first | done | rfl | (simp only [List.length_drop, List.length_take]; rfl)) ?_; (with_reducible refine (varint_PutList.calls kj12 _ _ x7_2 _ _ ((rd_T44 l1 x8_2).f3) t314 t315 _ ?side1 ?side2 ?side3 ?side4 A41.out).mono ?_); (case side1 => repeat (first | exact (Kd.V_reads' HO_7.out).2.2 | (with_reducible refine Kd.C_alloc ?_ _) | (with_reducible refine Kd.C_drewN ?_ _) | (with_reducible refine Kd.C_drew ?_))); (case side2 => exact (Kd.V_reads' HO_7.out).2.1); (case side3 => repeat (first | exact (Kd.C_below HR305_3.out HB.out) | (with_reducible refine Kd.C_alloc ?_ _) | (with_reducible refine Kd.C_drewN ?_ _) | (with_reducible refine Kd.C_drew ?_))); (case side4 => exact HC305_3.out); rintro e w48 ⟨v316, rfl, ho0, hb⟩; refine ⟨_, rfl, ?_⟩; have n0_ := Aside0.mk (Kd.V_elder' (by (with_reducible repeat (first | apply Kd.V_alloc | apply Kd.V_drewN | apply Kd.V_drew)); exact HO_0.out) (Kd.R_base ho0) hb); have n1_ := Aside0.mk (Kd.V_elder' (by (with_reducible repeat (first | apply Kd.V_alloc | apply Kd.V_drewN | apply Kd.V_drew)); exact HO_7.out) (Kd.R_base ho0) hb); have n2_ := Aside0.mk (Kd.R_lower (Kd.R_newM (M := fun k_ => (w.heap.size ≤ k_)) ho0 (below_size (by repeat (first | (with_reducible first | exact HB.out | apply below_alloc | apply pw_below_drewN | apply below_drew1 | refine below_set ?_ GE306.out) | exact HB.out))) (fun k_ h_ => h_)) (below_size (by repeat (first | (with_reducible first | exact HB.out | apply below_alloc | apply pw_below_drewN | apply below_drew1 | refine below_set ?_ GE306.out) | exact HB.out)))); have n3_ := Aside0.mk (blk_below (g := gb306) (o := .cells #[.int .i64 ((rd_T44 l1 x8_2).f0), .int .i64 ((rd_T44 l1 x8_2).f1), .string ((rd_T44 l1 x8_2).f2), .slice A305_3 ((rd_T44 l1 x8_2).f3).length c305_3] 44 (0, 0)) (by (with_reducible repeat (first | refine blk_drewN ?_ _ | refine blk_drew ?_ | refine blk_alloc ?_ _)); exact BK306.out) hb); have n4_ := Aside0.mk (below_step (by repeat (first | (with_reducible first | exact HB.out | apply below_alloc | apply pw_below_drewN | apply below_drew1 | refine below_set ?_ GE306.out) | exact HB.out)) hb); clear HO_0; clear HO_7; clear BK306; clear HB; have HO_0 := n0_; have HO_7 := n1_; have HO317 := n2_; have BK306 := n3_; have HB := n4_; clear n0_ n1_ n2_ n3_ n4_; (try clear hb); (try clear hb2); (try clear hk); (try clear hi); (try clear ho0)))
               go_ret
               exact ⟨by first | rfl | (simp [errW_none, errW_some] <;> rfl) | (simp [*, errW_none, errW_some] <;> rfl), by repeat (first | (with_reducible first | exact HB.out | apply below_alloc | apply pw_below_drewN | apply below_drew1 | refine below_set ?_ GE306.out) | exact HB.out)⟩
        ·rw [if_neg c12] at H
         exact absurd H (by simp)
       ·rw [if_neg c11] at H
        have c11b0 : decide (x8_2 < (l1.length : Int)) = false := decide_eq_false c11
        clear c11
        replace H := Option.bind_eq_some_iff.mp H
        obtain ⟨t318, A490, H⟩ := H
        replace H : (codesearchlaw03_VarintBack.l1 k2 l1 t318 (x7_2.length : Int) (l0.length : Int) 0) = some r := H
        have A49 := Aside0.mk A490
        clear A490
        have H' := Aside0.mk H
        clear H
        obtain ⟨Ao50, co50, eo50⟩ := Kd.V_slice HO_7.out
        subst eo50
        go_wp2_with (first | ((with_reducible refine gate_callee (f := 30) rfl ?_); refine goesL_ (some 118) rfl rfl Try.func30 (by kernel_rfl) rfl #[.slice Ao50 x7_2.length co50, .slice A2 l2.length c2] rfl (by (try simp only [List.map_toArray, List.map_cons, List.map_nil]); first | done | rfl | (simp only [List.length_drop, List.length_take]; rfl)) ?_; (with_reducible refine (codesearchlaw03_joined.calls k2 _ _ x7_2 _ _ l2 t318 _ ?side1 ?side2 ?side3 ?side4 A49.out).mono ?_); (case side1 => repeat (first | exact (Kd.V_reads' HO_7.out).2.2 | (with_reducible refine Kd.C_alloc ?_ _) | (with_reducible refine Kd.C_drewN ?_ _) | (with_reducible refine Kd.C_drew ?_))); (case side2 => exact (Kd.V_reads' HO_7.out).2.1); (case side3 => repeat (first | exact (Kd.C_below HR2.out HB.out) | (with_reducible refine Kd.C_alloc ?_ _) | (with_reducible refine Kd.C_drewN ?_ _) | (with_reducible refine Kd.C_drew ?_))); (case side4 => exact HC2.out); rintro e w51 ⟨v319, rfl, ho0, hb⟩; refine ⟨_, rfl, ?_⟩; have n0_ := Aside0.mk (Kd.V_elder' (by (with_reducible repeat (first | apply Kd.V_alloc | apply Kd.V_drewN | apply Kd.V_drew)); exact HO_0.out) (Kd.R_base ho0) hb); have n1_ := Aside0.mk (Kd.V_elder' (by (with_reducible repeat (first | apply Kd.V_alloc | apply Kd.V_drewN | apply Kd.V_drew)); exact HO_7.out) (Kd.R_base ho0) hb); have n2_ := Aside0.mk (Kd.R_lower (Kd.R_newM (M := fun k_ => (w.heap.size ≤ k_)) ho0 (below_size (by repeat (first | (with_reducible first | exact HB.out | apply below_alloc | apply pw_below_drewN | apply below_drew1) | exact HB.out))) (fun k_ h_ => h_)) (below_size (by repeat (first | (with_reducible first | exact HB.out | apply below_alloc | apply pw_below_drewN | apply below_drew1) | exact HB.out)))); have n3_ := Aside0.mk (below_step (by repeat (first | (with_reducible first | exact HB.out | apply below_alloc | apply pw_below_drewN | apply below_drew1) | exact HB.out)) hb); clear HO_0; clear HO_7; clear HB; have HO_0 := n0_; have HO_7 := n1_; have HO320 := n2_; have HB := n3_; clear n0_ n1_ n2_ n3_; (try clear hb); (try clear hb2); (try clear hk); (try clear hi); (try clear ho0)))
        go_loopg [13, 14] k2 (fun kq v13 v14 w' => ∃ (x13_3 : Int) (x14_3 : Int), v13 = .int .i64 x13_3 ∧ v14 = .int .i64 x14_3 ∧ Aside0 (codesearchlaw03_VarintBack.l1 kq l1 t318 (x7_2.length : Int) x13_3 x14_3 = some r) ∧ Aside0 (kq ≤ k2) ∧ Aside0 (Kd.R (Kd.int .u8) 5 w' w.heap.size (fun k_ => (w.heap.size ≤ k_)) v319 t318) ∧ Aside0 (Below w.heap.size w w'))
        case atStart => exact ⟨((l0.length : Int)), (0), (by first | rfl | (simp; done) | (simp [*]; done)), (by first | rfl | (simp; done) | (simp [*]; done)), H', ⟨Nat.le_refl _⟩, ⟨by (with_reducible repeat (first | apply Kd.R_alloc | apply Kd.R_drewN | apply Kd.R_drew)); exact Kd.R_mono HO320.out (fun _ hk => hk.1)⟩, ⟨by repeat (first | (with_reducible first | exact HB.out | apply below_alloc | apply pw_below_drewN | apply below_drew1) | exact HB.out)⟩⟩
        case round =>
         clear H'
         try clear c1
         try clear c2
         try clear p2
         try clear c3
         try clear p3
         try clear q3
         try clear hx3
         try clear c4
         try clear c5
         try clear p6
         try clear c8
         try clear c8b0
         try clear c8b1
         try clear c9
         try clear c9b0
         try clear c9b1
         try clear c10
         try clear c11
         try clear c11b0
         try clear c12
         try clear c12b0
         try clear c15
         try clear c16
         try clear c16b0
         try clear c17
         try clear c18
         try clear c18b0
         try clear c19
         try clear c20
         try clear c20b0
         try clear c20b1
         try clear c22
         try clear c22b0
         try clear c22b1
         try clear c23
         try clear c24
         try clear c24b0
         try clear c24b1
         try clear c26
         try clear c26b0
         try clear c27
         try clear c27b0
         try clear c30
         try clear p30
         try clear q30
         try clear hx30
         try clear c31
         try clear c31b0
         try clear c31b1
         try clear c36
         try clear c36b0
         try clear c36b1
         try clear c42
         try clear c42b0
         try clear c42b1
         try clear hcz15_0
         try clear hcz15_1
         try clear hcz15_2
         try clear hcz15_3
         try clear hcz17_0
         try clear hcz17_1
         try clear hcz17_2
         try clear hcz17_3
         try clear hcz19_0
         try clear hcz19_1
         try clear hcz19_2
         try clear hcz19_3
         try clear hcz21_0
         try clear hcz21_1
         try clear hcz21_2
         try clear hcz21_3
         try clear hcz23_0
         try clear hcz23_1
         try clear hcz23_2
         try clear hcz23_3
         try clear hcz28_0
         try clear hcz28_1
         try clear hcz28_2
         try clear hcz28_3
         try clear hcz29_0
         try clear hcz29_1
         try clear hcz29_2
         try clear hcz29_3
         try clear hcz33_0
         try clear hcz33_1
         try clear hcz33_2
         try clear hcz33_3
         try clear hcz38_0
         try clear hcz38_1
         try clear hcz38_2
         try clear hcz38_3
         try clear hcz43_0
         try clear hcz43_1
         try clear hcz43_2
         try clear hcz43_3
         try clear hcz46_0
         try clear hcz46_1
         try clear hcz46_2
         try clear hcz46_3
         try clear hfz15_0
         try clear hfz15_1
         try clear hfz15_2
         try clear hfz15_3
         try clear hfz17_0
         try clear hfz17_1
         try clear hfz17_2
         try clear hfz17_3
         try clear hfz19_0
         try clear hfz19_1
         try clear hfz19_2
         try clear hfz19_3
         try clear hfz21_0
         try clear hfz21_1
         try clear hfz21_2
         try clear hfz21_3
         try clear hfz23_0
         try clear hfz23_1
         try clear hfz23_2
         try clear hfz23_3
         try clear hfz28_0
         try clear hfz28_1
         try clear hfz28_2
         try clear hfz28_3
         try clear hfz29_0
         try clear hfz29_1
         try clear hfz29_2
         try clear hfz29_3
         try clear hfz33_0
         try clear hfz33_1
         try clear hfz33_2
         try clear hfz33_3
         try clear hfz38_0
         try clear hfz38_1
         try clear hfz38_2
         try clear hfz38_3
         try clear hfz43_0
         try clear hfz43_1
         try clear hfz43_2
         try clear hfz43_3
         try clear hfz46_0
         try clear hfz46_1
         try clear hfz46_2
         try clear hfz46_3
         try clear hx305_0
         try clear hx305_1
         try clear hx305_2
         try clear hx305_3
         try clear hx307_0
         try clear p2
         try clear p3
         try clear p305
         try clear p307
         try clear p6
         try clear q3
         try clear q305
         try clear q307
         obtain ⟨x13_3, x14_3, rfl, rfl, HA, HK3, HO_7, HB⟩ := hrel
         cases gk with
         | zero => exact absurd HA.out (by simp [codesearchlaw03_VarintBack.l1])
         | succ k3 =>
          have H := HA.out
          clear HA
          simp only [codesearchlaw03_VarintBack.l1] at H
          by_cases c52 : x14_3 < (l1.length : Int)
          ·rw [if_pos c52] at H
           have c52b0 : decide (x14_3 < (l1.length : Int)) = true := decide_eq_true c52
           clear c52
           by_cases c53 : 0 ≤ x14_3
           ·rw [if_pos c53] at H
            have c53b0 : decide (0 ≤ x14_3) = true := decide_eq_true c53
            clear c53
            by_cases c54 : (Int.tmod ((rd_T44 l1 x14_3).f0) 3) = 0
            ·rw [if_pos c54] at H
             have c54b0 : ((Int.tmod ((rd_T44 l1 x14_3).f0) 3) == 0) = true := beq_iff_eq.mpr c54
             have c54b1 : ((Int.tmod ((rd_T44 l1 x14_3).f0) 3) != 0) = false := bne_eq_false_iff_eq.mpr c54
             clear c54
             replace H := Option.bind_eq_some_iff.mp H
             obtain ⟨⟨t323, t324, t325⟩, A550, H⟩ := H
             replace H : (if t325 = 0 then (if t323 = ((rd_T44 l1 x14_3).f1) then (codesearchlaw03_VarintBack.l1 k3 l1 t318 (x7_2.length : Int) t324 (wrap64 (x14_3 + 1))) else (some false)) else (some false)) = some r := H
             have A55 := Aside0.mk A550
             clear A550
             by_cases c56 : t325 = 0
             ·rw [if_pos c56] at H
              have c56b0 : (t325 == 0) = true := beq_iff_eq.mpr c56
              have c56b1 : (t325 != 0) = false := bne_eq_false_iff_eq.mpr c56
              clear c56
              by_cases c57 : t323 = ((rd_T44 l1 x14_3).f1)
              ·rw [if_pos c57] at H
               have c57b0 : (t323 == ((rd_T44 l1 x14_3).f1)) = true := beq_iff_eq.mpr c57
               have c57b1 : (t323 != ((rd_T44 l1 x14_3).f1)) = false := bne_eq_false_iff_eq.mpr c57
               clear c57
               have H' := Aside0.mk H
               clear H
               have p321 : 0 ≤ (x14_3 : Int) := of_decide_eq_true (by first | (with_reducible assumption) | assumption)
               have q321 : x14_3 < (l1.length : Int) := of_decide_eq_true (by first | (with_reducible assumption) | assumption)
               obtain ⟨ad321, A321_3, c321_3, e321, hx321_0, hx321_1, hx321_2, hx321_3, hl321_3, hi321_3⟩ := at_T44 HR1.out x14_3 p321 q321
               cases e321
               replace hx321_0 := (HB.out.cell (World.block_lt_of_cell? w _ hx321_0)).trans hx321_0
               replace hx321_1 := (HB.out.cell (World.block_lt_of_cell? w _ hx321_1)).trans hx321_1
               replace hx321_2 := (HB.out.cell (World.block_lt_of_cell? w _ hx321_2)).trans hx321_2
               replace hx321_3 := (HB.out.cell (World.block_lt_of_cell? w _ hx321_3)).trans hx321_3
               have HR321_3 := Aside0.mk hi321_3
               have HC321_3 := Aside0.mk hl321_3
               clear hi321_3 hl321_3
               replace p321 := eq_true p321
               replace q321 := eq_true q321
               go_wp2_with (first | ((with_reducible refine gate_dst (N := 15) rfl ?_); (try (refine gate_guard (by rfl) ?_; dsimp only)); refine box_event ?hg (N := 15) ?hd (cs := #[.int .i64 0, .int .i64 0, .string (⟨#[]⟩ : ByteArray), .slice none 0 0]) (t := 44) ?hr ?_; (case hd => rfl); (case hg => rfl); (case hr => first | (go_simp; done) | (go_simp; rfl)); intro gb322 hg w58 hbox hb; have n0_ := Aside0.mk (Kd.R_below (by (with_reducible repeat (first | apply Kd.R_alloc | apply Kd.R_drewN | apply Kd.R_drew)); exact HO_7.out) hb); have n1_ := Aside0.mk (below_step (by repeat (first | (with_reducible first | exact HB.out | apply below_alloc | apply pw_below_drewN | apply below_drew1) | exact HB.out)) hb); have n2_ := Aside0.mk (hbox); have n3_ := Aside0.mk ((by rw [hg]; exact (below_size (by repeat (first | (with_reducible first | exact HB.out | apply below_alloc | apply pw_below_drewN | apply below_drew1) | exact HB.out))) : w.heap.size ≤ gb322)); have n4_ := Aside0.mk ((by rw [hg]; exact (below_size (by repeat (first | (with_reducible first | exact HB.out | apply below_alloc | apply pw_below_drewN | apply below_drew1) | exact HB.out))) : w.heap.size ≤ gb322)); clear HO_7; clear HB; have HO_7 := n0_; have HB := n1_; have BK322 := n2_; have GW322 := n3_; have GE322 := n4_; clear n0_ n1_ n2_ n3_ n4_; clear hb hbox hg; have hcz59_0 : w58.cell? ⟨gb322, 0, none⟩ = some (.int .i64 0) := (blk_cell BK322.out 0).trans rfl; have hcz59_1 : w58.cell? ⟨gb322, 1, none⟩ = some (.int .i64 0) := (blk_cell BK322.out 1).trans rfl; have hcz59_2 : w58.cell? ⟨gb322, 2, none⟩ = some (.string (⟨#[]⟩ : ByteArray)) := (blk_cell BK322.out 2).trans rfl; have hcz59_3 : w58.cell? ⟨gb322, 3, none⟩ = some (.slice none 0 0) := (blk_cell BK322.out 3).trans rfl; have hfz59_0 := blk_frozen BK322.out 0; have hfz59_1 := blk_frozen BK322.out 1; have hfz59_2 := blk_frozen BK322.out 2; have hfz59_3 := blk_frozen BK322.out 3; obtain ⟨Ao60, co60, eo60⟩ := Kd.R_slice HO_7.out; subst eo60) | ((with_reducible refine gate_callee (f := 21) rfl ?_); refine goesL_ (some 138) rfl rfl Try.func21 (by kernel_rfl) rfl #[.slice Ao60 t318.length co60, .int .i64 x13_3] rfl (by (try simp only [List.map_toArray, List.map_cons, List.map_nil]); first | done | rfl | (simp only [List.length_drop, List.length_take]; rfl)) ?_; (with_reducible refine (varint_Get.calls k3 _ _ t318 x13_3 t323 t324 t325 _ ?side1 ?side2 A55.out).mono ?_); (case side1 => refine (Kd.R_reads' (e := 5) (base := w.heap.size) (ok := fun k_ => (w.heap.size ≤ k_)) (n := t318.length) (c := co60) ?_).2.2; exact (by (with_reducible repeat (first | apply Kd.R_alloc | apply Kd.R_drewN | apply Kd.R_drew)); exact (Kd.R_mono (Kd.R_far (p := ⟨gb322, 3, none⟩) (Kd.R_far (p := ⟨gb322, 2, none⟩) (Kd.R_far (p := ⟨gb322, 1, none⟩) (Kd.R_far (p := ⟨gb322, 0, none⟩) (Kd.R_types HO_7.out BK322.out (by decide)) (fun _ hk => hk.2) (.int .i64 ((rd_T44 l1 x14_3).f0))) (fun _ hk => hk.2) (.int .i64 ((rd_T44 l1 x14_3).f1))) (fun _ hk => hk.2) (.string ((rd_T44 l1 x14_3).f2))) (fun _ hk => hk.2) (.slice A321_3 ((rd_T44 l1 x14_3).f3).length c321_3)) (fun _ h_ => h_.1)))); (case side2 => exact (Kd.R_reads' HO_7.out).2.1); rintro e w' ⟨rfl, ⟨nd, rfl⟩⟩; refine ⟨_, rfl, ?_⟩))
               go_roundg k3
               case measure => have := HJ5.out; have := HK2.out; have := HK3.out; omega
               case rel => exact ⟨(t324), (wrap64 (x14_3 + 1)), (by first | rfl | (simp; done) | (simp [*]; done)), (by first | rfl | (simp; done) | (simp [*]; done)), H', ⟨by have := HJ5.out; have := HK2.out; have := HK3.out; omega⟩, ⟨by (with_reducible repeat (first | apply Kd.R_alloc | apply Kd.R_drewN | apply Kd.R_drew)); exact Kd.R_mono (Kd.R_far (p := ⟨gb322, 3, none⟩) (Kd.R_far (p := ⟨gb322, 2, none⟩) (Kd.R_far (p := ⟨gb322, 1, none⟩) (Kd.R_far (p := ⟨gb322, 0, none⟩) (Kd.R_types HO_7.out BK322.out (by decide)) (fun _ hk => hk.2) (.int .i64 ((rd_T44 l1 x14_3).f0))) (fun _ hk => hk.2) (.int .i64 ((rd_T44 l1 x14_3).f1))) (fun _ hk => hk.2) (.string ((rd_T44 l1 x14_3).f2))) (fun _ hk => hk.2) (.slice A321_3 ((rd_T44 l1 x14_3).f3).length c321_3)) (fun _ hk => hk.1)⟩, ⟨by repeat (first | (with_reducible first | exact HB.out | apply below_alloc | apply pw_below_drewN | apply below_drew1 | refine below_set ?_ GE322.out) | exact HB.out)⟩⟩
              ·rw [if_neg c57] at H
               have c57b0 : (t323 == ((rd_T44 l1 x14_3).f1)) = false := beq_eq_false_iff_ne.mpr c57
               have c57b1 : (t323 != ((rd_T44 l1 x14_3).f1)) = true := bne_iff_ne.mpr c57
               obtain rfl := Option.some.inj H
               have p321 : 0 ≤ (x14_3 : Int) := of_decide_eq_true (by first | (with_reducible assumption) | assumption)
               have q321 : x14_3 < (l1.length : Int) := of_decide_eq_true (by first | (with_reducible assumption) | assumption)
               obtain ⟨ad321, A321_3, c321_3, e321, hx321_0, hx321_1, hx321_2, hx321_3, hl321_3, hi321_3⟩ := at_T44 HR1.out x14_3 p321 q321
               cases e321
               replace hx321_0 := (HB.out.cell (World.block_lt_of_cell? w _ hx321_0)).trans hx321_0
               replace hx321_1 := (HB.out.cell (World.block_lt_of_cell? w _ hx321_1)).trans hx321_1
               replace hx321_2 := (HB.out.cell (World.block_lt_of_cell? w _ hx321_2)).trans hx321_2
               replace hx321_3 := (HB.out.cell (World.block_lt_of_cell? w _ hx321_3)).trans hx321_3
               have HR321_3 := Aside0.mk hi321_3
               have HC321_3 := Aside0.mk hl321_3
               clear hi321_3 hl321_3
               replace p321 := eq_true p321
               replace q321 := eq_true q321
               go_wp2_with (first | ((with_reducible refine gate_dst (N := 15) rfl ?_); (try (refine gate_guard (by rfl) ?_; dsimp only)); refine box_event ?hg (N := 15) ?hd (cs := #[.int .i64 0, .int .i64 0, .string (⟨#[]⟩ : ByteArray), .slice none 0 0]) (t := 44) ?hr ?_; (case hd => rfl); (case hg => rfl); (case hr => first | (go_simp; done) | (go_simp; rfl)); intro gb322 hg w61 hbox hb; have n0_ := Aside0.mk (Kd.R_below (by (with_reducible repeat (first | apply Kd.R_alloc | apply Kd.R_drewN | apply Kd.R_drew)); exact HO_7.out) hb); have n1_ := Aside0.mk (below_step (by repeat (first | (with_reducible first | exact HB.out | apply below_alloc | apply pw_below_drewN | apply below_drew1) | exact HB.out)) hb); have n2_ := Aside0.mk (hbox); have n3_ := Aside0.mk ((by rw [hg]; exact (below_size (by repeat (first | (with_reducible first | exact HB.out | apply below_alloc | apply pw_below_drewN | apply below_drew1) | exact HB.out))) : w.heap.size ≤ gb322)); have n4_ := Aside0.mk ((by rw [hg]; exact (below_size (by repeat (first | (with_reducible first | exact HB.out | apply below_alloc | apply pw_below_drewN | apply below_drew1) | exact HB.out))) : w.heap.size ≤ gb322)); clear HO_7; clear HB; have HO_7 := n0_; have HB := n1_; have BK322 := n2_; have GW322 := n3_; have GE322 := n4_; clear n0_ n1_ n2_ n3_ n4_; clear hb hbox hg; have hcz62_0 : w61.cell? ⟨gb322, 0, none⟩ = some (.int .i64 0) := (blk_cell BK322.out 0).trans rfl; have hcz62_1 : w61.cell? ⟨gb322, 1, none⟩ = some (.int .i64 0) := (blk_cell BK322.out 1).trans rfl; have hcz62_2 : w61.cell? ⟨gb322, 2, none⟩ = some (.string (⟨#[]⟩ : ByteArray)) := (blk_cell BK322.out 2).trans rfl; have hcz62_3 : w61.cell? ⟨gb322, 3, none⟩ = some (.slice none 0 0) := (blk_cell BK322.out 3).trans rfl; have hfz62_0 := blk_frozen BK322.out 0; have hfz62_1 := blk_frozen BK322.out 1; have hfz62_2 := blk_frozen BK322.out 2; have hfz62_3 := blk_frozen BK322.out 3; obtain ⟨Ao63, co63, eo63⟩ := Kd.R_slice HO_7.out; subst eo63) | ((with_reducible refine gate_callee (f := 21) rfl ?_); refine goesL_ (some 138) rfl rfl Try.func21 (by kernel_rfl) rfl #[.slice Ao63 t318.length co63, .int .i64 x13_3] rfl (by (try simp only [List.map_toArray, List.map_cons, List.map_nil]); first | done | rfl | (simp only [List.length_drop, List.length_take]; rfl)) ?_; (with_reducible refine (varint_Get.calls k3 _ _ t318 x13_3 t323 t324 t325 _ ?side1 ?side2 A55.out).mono ?_); (case side1 => refine (Kd.R_reads' (e := 5) (base := w.heap.size) (ok := fun k_ => (w.heap.size ≤ k_)) (n := t318.length) (c := co63) ?_).2.2; exact (by (with_reducible repeat (first | apply Kd.R_alloc | apply Kd.R_drewN | apply Kd.R_drew)); exact (Kd.R_mono (Kd.R_far (p := ⟨gb322, 3, none⟩) (Kd.R_far (p := ⟨gb322, 2, none⟩) (Kd.R_far (p := ⟨gb322, 1, none⟩) (Kd.R_far (p := ⟨gb322, 0, none⟩) (Kd.R_types HO_7.out BK322.out (by decide)) (fun _ hk => hk.2) (.int .i64 ((rd_T44 l1 x14_3).f0))) (fun _ hk => hk.2) (.int .i64 ((rd_T44 l1 x14_3).f1))) (fun _ hk => hk.2) (.string ((rd_T44 l1 x14_3).f2))) (fun _ hk => hk.2) (.slice A321_3 ((rd_T44 l1 x14_3).f3).length c321_3)) (fun _ h_ => h_.1)))); (case side2 => exact (Kd.R_reads' HO_7.out).2.1); rintro e w' ⟨rfl, ⟨nd, rfl⟩⟩; refine ⟨_, rfl, ?_⟩))
               go_ret
               exact ⟨by first | rfl | (simp [errW_none, errW_some] <;> rfl) | (simp [*, errW_none, errW_some] <;> rfl), by repeat (first | (with_reducible first | exact HB.out | apply below_alloc | apply pw_below_drewN | apply below_drew1 | refine below_set ?_ GE322.out) | exact HB.out)⟩
             ·rw [if_neg c56] at H
              have c56b0 : (t325 == 0) = false := beq_eq_false_iff_ne.mpr c56
              have c56b1 : (t325 != 0) = true := bne_iff_ne.mpr c56
              obtain rfl := Option.some.inj H
              have p321 : 0 ≤ (x14_3 : Int) := of_decide_eq_true (by first | (with_reducible assumption) | assumption)
              have q321 : x14_3 < (l1.length : Int) := of_decide_eq_true (by first | (with_reducible assumption) | assumption)
              obtain ⟨ad321, A321_3, c321_3, e321, hx321_0, hx321_1, hx321_2, hx321_3, hl321_3, hi321_3⟩ := at_T44 HR1.out x14_3 p321 q321
              cases e321
              replace hx321_0 := (HB.out.cell (World.block_lt_of_cell? w _ hx321_0)).trans hx321_0
              replace hx321_1 := (HB.out.cell (World.block_lt_of_cell? w _ hx321_1)).trans hx321_1
              replace hx321_2 := (HB.out.cell (World.block_lt_of_cell? w _ hx321_2)).trans hx321_2
              replace hx321_3 := (HB.out.cell (World.block_lt_of_cell? w _ hx321_3)).trans hx321_3
              have HR321_3 := Aside0.mk hi321_3
              have HC321_3 := Aside0.mk hl321_3
              clear hi321_3 hl321_3
              replace p321 := eq_true p321
              replace q321 := eq_true q321
              go_wp2_with (first | ((with_reducible refine gate_dst (N := 15) rfl ?_); (try (refine gate_guard (by rfl) ?_; dsimp only)); refine box_event ?hg (N := 15) ?hd (cs := #[.int .i64 0, .int .i64 0, .string (⟨#[]⟩ : ByteArray), .slice none 0 0]) (t := 44) ?hr ?_; (case hd => rfl); (case hg => rfl); (case hr => first | (go_simp; done) | (go_simp; rfl)); intro gb322 hg w64 hbox hb; have n0_ := Aside0.mk (Kd.R_below (by (with_reducible repeat (first | apply Kd.R_alloc | apply Kd.R_drewN | apply Kd.R_drew)); exact HO_7.out) hb); have n1_ := Aside0.mk (below_step (by repeat (first | (with_reducible first | exact HB.out | apply below_alloc | apply pw_below_drewN | apply below_drew1) | exact HB.out)) hb); have n2_ := Aside0.mk (hbox); have n3_ := Aside0.mk ((by rw [hg]; exact (below_size (by repeat (first | (with_reducible first | exact HB.out | apply below_alloc | apply pw_below_drewN | apply below_drew1) | exact HB.out))) : w.heap.size ≤ gb322)); have n4_ := Aside0.mk ((by rw [hg]; exact (below_size (by repeat (first | (with_reducible first | exact HB.out | apply below_alloc | apply pw_below_drewN | apply below_drew1) | exact HB.out))) : w.heap.size ≤ gb322)); clear HO_7; clear HB; have HO_7 := n0_; have HB := n1_; have BK322 := n2_; have GW322 := n3_; have GE322 := n4_; clear n0_ n1_ n2_ n3_ n4_; clear hb hbox hg; have hcz65_0 : w64.cell? ⟨gb322, 0, none⟩ = some (.int .i64 0) := (blk_cell BK322.out 0).trans rfl; have hcz65_1 : w64.cell? ⟨gb322, 1, none⟩ = some (.int .i64 0) := (blk_cell BK322.out 1).trans rfl; have hcz65_2 : w64.cell? ⟨gb322, 2, none⟩ = some (.string (⟨#[]⟩ : ByteArray)) := (blk_cell BK322.out 2).trans rfl; have hcz65_3 : w64.cell? ⟨gb322, 3, none⟩ = some (.slice none 0 0) := (blk_cell BK322.out 3).trans rfl; have hfz65_0 := blk_frozen BK322.out 0; have hfz65_1 := blk_frozen BK322.out 1; have hfz65_2 := blk_frozen BK322.out 2; have hfz65_3 := blk_frozen BK322.out 3; obtain ⟨Ao66, co66, eo66⟩ := Kd.R_slice HO_7.out; subst eo66) | ((with_reducible refine gate_callee (f := 21) rfl ?_); refine goesL_ (some 138) rfl rfl Try.func21 (by kernel_rfl) rfl #[.slice Ao66 t318.length co66, .int .i64 x13_3] rfl (by (try simp only [List.map_toArray, List.map_cons, List.map_nil]); first | done | rfl | (simp only [List.length_drop, List.length_take]; rfl)) ?_; (with_reducible refine (varint_Get.calls k3 _ _ t318 x13_3 t323 t324 t325 _ ?side1 ?side2 A55.out).mono ?_); (case side1 => refine (Kd.R_reads' (e := 5) (base := w.heap.size) (ok := fun k_ => (w.heap.size ≤ k_)) (n := t318.length) (c := co66) ?_).2.2; exact (by (with_reducible repeat (first | apply Kd.R_alloc | apply Kd.R_drewN | apply Kd.R_drew)); exact (Kd.R_mono (Kd.R_far (p := ⟨gb322, 3, none⟩) (Kd.R_far (p := ⟨gb322, 2, none⟩) (Kd.R_far (p := ⟨gb322, 1, none⟩) (Kd.R_far (p := ⟨gb322, 0, none⟩) (Kd.R_types HO_7.out BK322.out (by decide)) (fun _ hk => hk.2) (.int .i64 ((rd_T44 l1 x14_3).f0))) (fun _ hk => hk.2) (.int .i64 ((rd_T44 l1 x14_3).f1))) (fun _ hk => hk.2) (.string ((rd_T44 l1 x14_3).f2))) (fun _ hk => hk.2) (.slice A321_3 ((rd_T44 l1 x14_3).f3).length c321_3)) (fun _ h_ => h_.1)))); (case side2 => exact (Kd.R_reads' HO_7.out).2.1); rintro e w' ⟨rfl, ⟨nd, rfl⟩⟩; refine ⟨_, rfl, ?_⟩))
              go_ret
              exact ⟨by first | rfl | (simp [errW_none, errW_some] <;> rfl) | (simp [*, errW_none, errW_some] <;> rfl), by repeat (first | (with_reducible first | exact HB.out | apply below_alloc | apply pw_below_drewN | apply below_drew1 | refine below_set ?_ GE322.out) | exact HB.out)⟩
            ·rw [if_neg c54] at H
             have c54b0 : ((Int.tmod ((rd_T44 l1 x14_3).f0) 3) == 0) = false := beq_eq_false_iff_ne.mpr c54
             have c54b1 : ((Int.tmod ((rd_T44 l1 x14_3).f0) 3) != 0) = true := bne_iff_ne.mpr c54
             by_cases c67 : (Int.tmod ((rd_T44 l1 x14_3).f0) 3) = 1
             ·rw [if_pos c67] at H
              have c67b0 : ((Int.tmod ((rd_T44 l1 x14_3).f0) 3) == 1) = true := beq_iff_eq.mpr c67
              have c67b1 : ((Int.tmod ((rd_T44 l1 x14_3).f0) 3) != 1) = false := bne_eq_false_iff_eq.mpr c67
              clear c67
              replace H := Option.bind_eq_some_iff.mp H
              obtain ⟨⟨t326, t327, t328⟩, A680, H⟩ := H
              replace H : (if t328 = 0 then (if t326.toList = ((rd_T44 l1 x14_3).f2).toList then (codesearchlaw03_VarintBack.l1 k3 l1 t318 (x7_2.length : Int) t327 (wrap64 (x14_3 + 1))) else (some false)) else (some false)) = some r := H
              have A68 := Aside0.mk A680
              clear A680
              by_cases c69 : t328 = 0
              ·rw [if_pos c69] at H
               have c69b0 : (t328 == 0) = true := beq_iff_eq.mpr c69
               have c69b1 : (t328 != 0) = false := bne_eq_false_iff_eq.mpr c69
               clear c69
               by_cases c70 : t326.toList = ((rd_T44 l1 x14_3).f2).toList
               ·rw [if_pos c70] at H
                have c70b0 : (t326.toList == ((rd_T44 l1 x14_3).f2).toList) = true := beq_iff_eq.mpr c70
                have c70b1 : (t326.toList != ((rd_T44 l1 x14_3).f2).toList) = false := bne_eq_false_iff_eq.mpr c70
                clear c70
                have H' := Aside0.mk H
                clear H
                have p321 : 0 ≤ (x14_3 : Int) := of_decide_eq_true (by first | (with_reducible assumption) | assumption)
                have q321 : x14_3 < (l1.length : Int) := of_decide_eq_true (by first | (with_reducible assumption) | assumption)
                obtain ⟨ad321, A321_3, c321_3, e321, hx321_0, hx321_1, hx321_2, hx321_3, hl321_3, hi321_3⟩ := at_T44 HR1.out x14_3 p321 q321
                cases e321
                replace hx321_0 := (HB.out.cell (World.block_lt_of_cell? w _ hx321_0)).trans hx321_0
                replace hx321_1 := (HB.out.cell (World.block_lt_of_cell? w _ hx321_1)).trans hx321_1
                replace hx321_2 := (HB.out.cell (World.block_lt_of_cell? w _ hx321_2)).trans hx321_2
                replace hx321_3 := (HB.out.cell (World.block_lt_of_cell? w _ hx321_3)).trans hx321_3
                have HR321_3 := Aside0.mk hi321_3
                have HC321_3 := Aside0.mk hl321_3
                clear hi321_3 hl321_3
                replace p321 := eq_true p321
                replace q321 := eq_true q321
                go_wp2_with (first | ((with_reducible refine gate_dst (N := 15) rfl ?_); (try (refine gate_guard (by rfl) ?_; dsimp only)); refine box_event ?hg (N := 15) ?hd (cs := #[.int .i64 0, .int .i64 0, .string (⟨#[]⟩ : ByteArray), .slice none 0 0]) (t := 44) ?hr ?_; (case hd => rfl); (case hg => rfl); (case hr => first | (go_simp; done) | (go_simp; rfl)); intro gb322 hg w71 hbox hb; have n0_ := Aside0.mk (Kd.R_below (by (with_reducible repeat (first | apply Kd.R_alloc | apply Kd.R_drewN | apply Kd.R_drew)); exact HO_7.out) hb); have n1_ := Aside0.mk (below_step (by repeat (first | (with_reducible first | exact HB.out | apply below_alloc | apply pw_below_drewN | apply below_drew1) | exact HB.out)) hb); have n2_ := Aside0.mk (hbox); have n3_ := Aside0.mk ((by rw [hg]; exact (below_size (by repeat (first | (with_reducible first | exact HB.out | apply below_alloc | apply pw_below_drewN | apply below_drew1) | exact HB.out))) : w.heap.size ≤ gb322)); have n4_ := Aside0.mk ((by rw [hg]; exact (below_size (by repeat (first | (with_reducible first | exact HB.out | apply below_alloc | apply pw_below_drewN | apply below_drew1) | exact HB.out))) : w.heap.size ≤ gb322)); clear HO_7; clear HB; have HO_7 := n0_; have HB := n1_; have BK322 := n2_; have GW322 := n3_; have GE322 := n4_; clear n0_ n1_ n2_ n3_ n4_; clear hb hbox hg; have hcz72_0 : w71.cell? ⟨gb322, 0, none⟩ = some (.int .i64 0) := (blk_cell BK322.out 0).trans rfl; have hcz72_1 : w71.cell? ⟨gb322, 1, none⟩ = some (.int .i64 0) := (blk_cell BK322.out 1).trans rfl; have hcz72_2 : w71.cell? ⟨gb322, 2, none⟩ = some (.string (⟨#[]⟩ : ByteArray)) := (blk_cell BK322.out 2).trans rfl; have hcz72_3 : w71.cell? ⟨gb322, 3, none⟩ = some (.slice none 0 0) := (blk_cell BK322.out 3).trans rfl; have hfz72_0 := blk_frozen BK322.out 0; have hfz72_1 := blk_frozen BK322.out 1; have hfz72_2 := blk_frozen BK322.out 2; have hfz72_3 := blk_frozen BK322.out 3; obtain ⟨Ao73, co73, eo73⟩ := Kd.R_slice HO_7.out; subst eo73) | ((with_reducible refine gate_callee (f := 25) rfl ?_); refine goesL_ (some 161) rfl rfl Try.func25 (by kernel_rfl) rfl #[.slice Ao73 t318.length co73, .int .i64 x13_3, .int .i64 (((rd_T44 l1 x14_3).f2).size : Int)] rfl (by (try simp only [List.map_toArray, List.map_cons, List.map_nil]); first | done | rfl | (simp only [List.length_drop, List.length_take]; rfl)) ?_; (with_reducible refine (varint_GetString.calls k3 _ _ t318 x13_3 (((rd_T44 l1 x14_3).f2).size : Int) t326 t327 t328 _ ?side1 ?side2 A68.out).mono ?_); (case side1 => refine (Kd.R_reads' (e := 5) (base := w.heap.size) (ok := fun k_ => (w.heap.size ≤ k_)) (n := t318.length) (c := co73) ?_).2.2; exact (by (with_reducible repeat (first | apply Kd.R_alloc | apply Kd.R_drewN | apply Kd.R_drew)); exact (Kd.R_mono (Kd.R_far (p := ⟨gb322, 3, none⟩) (Kd.R_far (p := ⟨gb322, 2, none⟩) (Kd.R_far (p := ⟨gb322, 1, none⟩) (Kd.R_far (p := ⟨gb322, 0, none⟩) (Kd.R_types HO_7.out BK322.out (by decide)) (fun _ hk => hk.2) (.int .i64 ((rd_T44 l1 x14_3).f0))) (fun _ hk => hk.2) (.int .i64 ((rd_T44 l1 x14_3).f1))) (fun _ hk => hk.2) (.string ((rd_T44 l1 x14_3).f2))) (fun _ hk => hk.2) (.slice A321_3 ((rd_T44 l1 x14_3).f3).length c321_3)) (fun _ h_ => h_.1)))); (case side2 => exact (Kd.R_reads' HO_7.out).2.1); rintro e w' ⟨rfl, ⟨nd, rfl⟩⟩; refine ⟨_, rfl, ?_⟩))
                go_roundg k3
                case measure => have := HJ5.out; have := HK2.out; have := HK3.out; omega
                case rel => exact ⟨(t327), (wrap64 (x14_3 + 1)), (by first | rfl | (simp; done) | (simp [*]; done)), (by first | rfl | (simp; done) | (simp [*]; done)), H', ⟨by have := HJ5.out; have := HK2.out; have := HK3.out; omega⟩, ⟨by (with_reducible repeat (first | apply Kd.R_alloc | apply Kd.R_drewN | apply Kd.R_drew)); exact Kd.R_mono (Kd.R_far (p := ⟨gb322, 3, none⟩) (Kd.R_far (p := ⟨gb322, 2, none⟩) (Kd.R_far (p := ⟨gb322, 1, none⟩) (Kd.R_far (p := ⟨gb322, 0, none⟩) (Kd.R_types HO_7.out BK322.out (by decide)) (fun _ hk => hk.2) (.int .i64 ((rd_T44 l1 x14_3).f0))) (fun _ hk => hk.2) (.int .i64 ((rd_T44 l1 x14_3).f1))) (fun _ hk => hk.2) (.string ((rd_T44 l1 x14_3).f2))) (fun _ hk => hk.2) (.slice A321_3 ((rd_T44 l1 x14_3).f3).length c321_3)) (fun _ hk => hk.1)⟩, ⟨by repeat (first | (with_reducible first | exact HB.out | apply below_alloc | apply pw_below_drewN | apply below_drew1 | refine below_set ?_ GE322.out) | exact HB.out)⟩⟩
               ·rw [if_neg c70] at H
                have c70b0 : (t326.toList == ((rd_T44 l1 x14_3).f2).toList) = false := beq_eq_false_iff_ne.mpr c70
                have c70b1 : (t326.toList != ((rd_T44 l1 x14_3).f2).toList) = true := bne_iff_ne.mpr c70
                obtain rfl := Option.some.inj H
                have p321 : 0 ≤ (x14_3 : Int) := of_decide_eq_true (by first | (with_reducible assumption) | assumption)
                have q321 : x14_3 < (l1.length : Int) := of_decide_eq_true (by first | (with_reducible assumption) | assumption)
                obtain ⟨ad321, A321_3, c321_3, e321, hx321_0, hx321_1, hx321_2, hx321_3, hl321_3, hi321_3⟩ := at_T44 HR1.out x14_3 p321 q321
                cases e321
                replace hx321_0 := (HB.out.cell (World.block_lt_of_cell? w _ hx321_0)).trans hx321_0
                replace hx321_1 := (HB.out.cell (World.block_lt_of_cell? w _ hx321_1)).trans hx321_1
                replace hx321_2 := (HB.out.cell (World.block_lt_of_cell? w _ hx321_2)).trans hx321_2
                replace hx321_3 := (HB.out.cell (World.block_lt_of_cell? w _ hx321_3)).trans hx321_3
                have HR321_3 := Aside0.mk hi321_3
                have HC321_3 := Aside0.mk hl321_3
                clear hi321_3 hl321_3
                replace p321 := eq_true p321
                replace q321 := eq_true q321
                go_wp2_with (first | ((with_reducible refine gate_dst (N := 15) rfl ?_); (try (refine gate_guard (by rfl) ?_; dsimp only)); refine box_event ?hg (N := 15) ?hd (cs := #[.int .i64 0, .int .i64 0, .string (⟨#[]⟩ : ByteArray), .slice none 0 0]) (t := 44) ?hr ?_; (case hd => rfl); (case hg => rfl); (case hr => first | (go_simp; done) | (go_simp; rfl)); intro gb322 hg w74 hbox hb; have n0_ := Aside0.mk (Kd.R_below (by (with_reducible repeat (first | apply Kd.R_alloc | apply Kd.R_drewN | apply Kd.R_drew)); exact HO_7.out) hb); have n1_ := Aside0.mk (below_step (by repeat (first | (with_reducible first | exact HB.out | apply below_alloc | apply pw_below_drewN | apply below_drew1) | exact HB.out)) hb); have n2_ := Aside0.mk (hbox); have n3_ := Aside0.mk ((by rw [hg]; exact (below_size (by repeat (first | (with_reducible first | exact HB.out | apply below_alloc | apply pw_below_drewN | apply below_drew1) | exact HB.out))) : w.heap.size ≤ gb322)); have n4_ := Aside0.mk ((by rw [hg]; exact (below_size (by repeat (first | (with_reducible first | exact HB.out | apply below_alloc | apply pw_below_drewN | apply below_drew1) | exact HB.out))) : w.heap.size ≤ gb322)); clear HO_7; clear HB; have HO_7 := n0_; have HB := n1_; have BK322 := n2_; have GW322 := n3_; have GE322 := n4_; clear n0_ n1_ n2_ n3_ n4_; clear hb hbox hg; have hcz75_0 : w74.cell? ⟨gb322, 0, none⟩ = some (.int .i64 0) := (blk_cell BK322.out 0).trans rfl; have hcz75_1 : w74.cell? ⟨gb322, 1, none⟩ = some (.int .i64 0) := (blk_cell BK322.out 1).trans rfl; have hcz75_2 : w74.cell? ⟨gb322, 2, none⟩ = some (.string (⟨#[]⟩ : ByteArray)) := (blk_cell BK322.out 2).trans rfl; have hcz75_3 : w74.cell? ⟨gb322, 3, none⟩ = some (.slice none 0 0) := (blk_cell BK322.out 3).trans rfl; have hfz75_0 := blk_frozen BK322.out 0; have hfz75_1 := blk_frozen BK322.out 1; have hfz75_2 := blk_frozen BK322.out 2; have hfz75_3 := blk_frozen BK322.out 3; obtain ⟨Ao76, co76, eo76⟩ := Kd.R_slice HO_7.out; subst eo76) | ((with_reducible refine gate_callee (f := 25) rfl ?_); refine goesL_ (some 161) rfl rfl Try.func25 (by kernel_rfl) rfl #[.slice Ao76 t318.length co76, .int .i64 x13_3, .int .i64 (((rd_T44 l1 x14_3).f2).size : Int)] rfl (by (try simp only [List.map_toArray, List.map_cons, List.map_nil]); first | done | rfl | (simp only [List.length_drop, List.length_take]; rfl)) ?_; (with_reducible refine (varint_GetString.calls k3 _ _ t318 x13_3 (((rd_T44 l1 x14_3).f2).size : Int) t326 t327 t328 _ ?side1 ?side2 A68.out).mono ?_); (case side1 => refine (Kd.R_reads' (e := 5) (base := w.heap.size) (ok := fun k_ => (w.heap.size ≤ k_)) (n := t318.length) (c := co76) ?_).2.2; exact (by (with_reducible repeat (first | apply Kd.R_alloc | apply Kd.R_drewN | apply Kd.R_drew)); exact (Kd.R_mono (Kd.R_far (p := ⟨gb322, 3, none⟩) (Kd.R_far (p := ⟨gb322, 2, none⟩) (Kd.R_far (p := ⟨gb322, 1, none⟩) (Kd.R_far (p := ⟨gb322, 0, none⟩) (Kd.R_types HO_7.out BK322.out (by decide)) (fun _ hk => hk.2) (.int .i64 ((rd_T44 l1 x14_3).f0))) (fun _ hk => hk.2) (.int .i64 ((rd_T44 l1 x14_3).f1))) (fun _ hk => hk.2) (.string ((rd_T44 l1 x14_3).f2))) (fun _ hk => hk.2) (.slice A321_3 ((rd_T44 l1 x14_3).f3).length c321_3)) (fun _ h_ => h_.1)))); (case side2 => exact (Kd.R_reads' HO_7.out).2.1); rintro e w' ⟨rfl, ⟨nd, rfl⟩⟩; refine ⟨_, rfl, ?_⟩))
                go_ret
                exact ⟨by first | rfl | (simp [errW_none, errW_some] <;> rfl) | (simp [*, errW_none, errW_some] <;> rfl), by repeat (first | (with_reducible first | exact HB.out | apply below_alloc | apply pw_below_drewN | apply below_drew1 | refine below_set ?_ GE322.out) | exact HB.out)⟩
              ·rw [if_neg c69] at H
               have c69b0 : (t328 == 0) = false := beq_eq_false_iff_ne.mpr c69
               have c69b1 : (t328 != 0) = true := bne_iff_ne.mpr c69
               obtain rfl := Option.some.inj H
               have p321 : 0 ≤ (x14_3 : Int) := of_decide_eq_true (by first | (with_reducible assumption) | assumption)
               have q321 : x14_3 < (l1.length : Int) := of_decide_eq_true (by first | (with_reducible assumption) | assumption)
               obtain ⟨ad321, A321_3, c321_3, e321, hx321_0, hx321_1, hx321_2, hx321_3, hl321_3, hi321_3⟩ := at_T44 HR1.out x14_3 p321 q321
               cases e321
               replace hx321_0 := (HB.out.cell (World.block_lt_of_cell? w _ hx321_0)).trans hx321_0
               replace hx321_1 := (HB.out.cell (World.block_lt_of_cell? w _ hx321_1)).trans hx321_1
               replace hx321_2 := (HB.out.cell (World.block_lt_of_cell? w _ hx321_2)).trans hx321_2
               replace hx321_3 := (HB.out.cell (World.block_lt_of_cell? w _ hx321_3)).trans hx321_3
               have HR321_3 := Aside0.mk hi321_3
               have HC321_3 := Aside0.mk hl321_3
               clear hi321_3 hl321_3
               replace p321 := eq_true p321
               replace q321 := eq_true q321
               go_wp2_with (first | ((with_reducible refine gate_dst (N := 15) rfl ?_); (try (refine gate_guard (by rfl) ?_; dsimp only)); refine box_event ?hg (N := 15) ?hd (cs := #[.int .i64 0, .int .i64 0, .string (⟨#[]⟩ : ByteArray), .slice none 0 0]) (t := 44) ?hr ?_; (case hd => rfl); (case hg => rfl); (case hr => first | (go_simp; done) | (go_simp; rfl)); intro gb322 hg w77 hbox hb; have n0_ := Aside0.mk (Kd.R_below (by (with_reducible repeat (first | apply Kd.R_alloc | apply Kd.R_drewN | apply Kd.R_drew)); exact HO_7.out) hb); have n1_ := Aside0.mk (below_step (by repeat (first | (with_reducible first | exact HB.out | apply below_alloc | apply pw_below_drewN | apply below_drew1) | exact HB.out)) hb); have n2_ := Aside0.mk (hbox); have n3_ := Aside0.mk ((by rw [hg]; exact (below_size (by repeat (first | (with_reducible first | exact HB.out | apply below_alloc | apply pw_below_drewN | apply below_drew1) | exact HB.out))) : w.heap.size ≤ gb322)); have n4_ := Aside0.mk ((by rw [hg]; exact (below_size (by repeat (first | (with_reducible first | exact HB.out | apply below_alloc | apply pw_below_drewN | apply below_drew1) | exact HB.out))) : w.heap.size ≤ gb322)); clear HO_7; clear HB; have HO_7 := n0_; have HB := n1_; have BK322 := n2_; have GW322 := n3_; have GE322 := n4_; clear n0_ n1_ n2_ n3_ n4_; clear hb hbox hg; have hcz78_0 : w77.cell? ⟨gb322, 0, none⟩ = some (.int .i64 0) := (blk_cell BK322.out 0).trans rfl; have hcz78_1 : w77.cell? ⟨gb322, 1, none⟩ = some (.int .i64 0) := (blk_cell BK322.out 1).trans rfl; have hcz78_2 : w77.cell? ⟨gb322, 2, none⟩ = some (.string (⟨#[]⟩ : ByteArray)) := (blk_cell BK322.out 2).trans rfl; have hcz78_3 : w77.cell? ⟨gb322, 3, none⟩ = some (.slice none 0 0) := (blk_cell BK322.out 3).trans rfl; have hfz78_0 := blk_frozen BK322.out 0; have hfz78_1 := blk_frozen BK322.out 1; have hfz78_2 := blk_frozen BK322.out 2; have hfz78_3 := blk_frozen BK322.out 3; obtain ⟨Ao79, co79, eo79⟩ := Kd.R_slice HO_7.out; subst eo79) | ((with_reducible refine gate_callee (f := 25) rfl ?_); refine goesL_ (some 161) rfl rfl Try.func25 (by kernel_rfl) rfl #[.slice Ao79 t318.length co79, .int .i64 x13_3, .int .i64 (((rd_T44 l1 x14_3).f2).size : Int)] rfl (by (try simp only [List.map_toArray, List.map_cons, List.map_nil]); first | done | rfl | (simp only [List.length_drop, List.length_take]; rfl)) ?_; (with_reducible refine (varint_GetString.calls k3 _ _ t318 x13_3 (((rd_T44 l1 x14_3).f2).size : Int) t326 t327 t328 _ ?side1 ?side2 A68.out).mono ?_); (case side1 => refine (Kd.R_reads' (e := 5) (base := w.heap.size) (ok := fun k_ => (w.heap.size ≤ k_)) (n := t318.length) (c := co79) ?_).2.2; exact (by (with_reducible repeat (first | apply Kd.R_alloc | apply Kd.R_drewN | apply Kd.R_drew)); exact (Kd.R_mono (Kd.R_far (p := ⟨gb322, 3, none⟩) (Kd.R_far (p := ⟨gb322, 2, none⟩) (Kd.R_far (p := ⟨gb322, 1, none⟩) (Kd.R_far (p := ⟨gb322, 0, none⟩) (Kd.R_types HO_7.out BK322.out (by decide)) (fun _ hk => hk.2) (.int .i64 ((rd_T44 l1 x14_3).f0))) (fun _ hk => hk.2) (.int .i64 ((rd_T44 l1 x14_3).f1))) (fun _ hk => hk.2) (.string ((rd_T44 l1 x14_3).f2))) (fun _ hk => hk.2) (.slice A321_3 ((rd_T44 l1 x14_3).f3).length c321_3)) (fun _ h_ => h_.1)))); (case side2 => exact (Kd.R_reads' HO_7.out).2.1); rintro e w' ⟨rfl, ⟨nd, rfl⟩⟩; refine ⟨_, rfl, ?_⟩))
               go_ret
               exact ⟨by first | rfl | (simp [errW_none, errW_some] <;> rfl) | (simp [*, errW_none, errW_some] <;> rfl), by repeat (first | (with_reducible first | exact HB.out | apply below_alloc | apply pw_below_drewN | apply below_drew1 | refine below_set ?_ GE322.out) | exact HB.out)⟩
             ·rw [if_neg c67] at H
              have c67b0 : ((Int.tmod ((rd_T44 l1 x14_3).f0) 3) == 1) = false := beq_eq_false_iff_ne.mpr c67
              have c67b1 : ((Int.tmod ((rd_T44 l1 x14_3).f0) 3) != 1) = true := bne_iff_ne.mpr c67
              replace H := Option.bind_eq_some_iff.mp H
              obtain ⟨⟨t329, t330, t331⟩, A800, H⟩ := H
              replace H : (if t331 = 0 then ((codesearchref03_SameInts.f k3 t329 ((rd_T44 l1 x14_3).f3)).bind fun t334 => (if t334 = true then (codesearchlaw03_VarintBack.l1 k3 l1 t318 (x7_2.length : Int) t330 (wrap64 (x14_3 + 1))) else (some false))) else (some false)) = some r := H
              have A80 := Aside0.mk A800
              clear A800
              by_cases c81 : t331 = 0
              ·rw [if_pos c81] at H
               have c81b0 : (t331 == 0) = true := beq_iff_eq.mpr c81
               have c81b1 : (t331 != 0) = false := bne_eq_false_iff_eq.mpr c81
               clear c81
               replace H := Option.bind_eq_some_iff.mp H
               obtain ⟨t334, A820, H⟩ := H
               replace H : (if t334 = true then (codesearchlaw03_VarintBack.l1 k3 l1 t318 (x7_2.length : Int) t330 (wrap64 (x14_3 + 1))) else (some false)) = some r := H
               have A82 := Aside0.mk A820
               clear A820
               by_cases c83 : t334 = true
               ·subst c83
                have H1 : (codesearchlaw03_VarintBack.l1 k3 l1 t318 (x7_2.length : Int) t330 (wrap64 (x14_3 + 1))) = some r := by rw [if_pos rfl] at H; exact H
                clear H
                have H := H1
                clear H1
                have H' := Aside0.mk H
                clear H
                have p321 : 0 ≤ (x14_3 : Int) := of_decide_eq_true (by first | (with_reducible assumption) | assumption)
                have q321 : x14_3 < (l1.length : Int) := of_decide_eq_true (by first | (with_reducible assumption) | assumption)
                obtain ⟨ad321, A321_3, c321_3, e321, hx321_0, hx321_1, hx321_2, hx321_3, hl321_3, hi321_3⟩ := at_T44 HR1.out x14_3 p321 q321
                cases e321
                replace hx321_0 := (HB.out.cell (World.block_lt_of_cell? w _ hx321_0)).trans hx321_0
                replace hx321_1 := (HB.out.cell (World.block_lt_of_cell? w _ hx321_1)).trans hx321_1
                replace hx321_2 := (HB.out.cell (World.block_lt_of_cell? w _ hx321_2)).trans hx321_2
                replace hx321_3 := (HB.out.cell (World.block_lt_of_cell? w _ hx321_3)).trans hx321_3
                have HR321_3 := Aside0.mk hi321_3
                have HC321_3 := Aside0.mk hl321_3
                clear hi321_3 hl321_3
                replace p321 := eq_true p321
                replace q321 := eq_true q321
                go_wp2_with (first | ((with_reducible refine gate_dst (N := 15) rfl ?_); (try (refine gate_guard (by rfl) ?_; dsimp only)); refine box_event ?hg (N := 15) ?hd (cs := #[.int .i64 0, .int .i64 0, .string (⟨#[]⟩ : ByteArray), .slice none 0 0]) (t := 44) ?hr ?_; (case hd => rfl); (case hg => rfl); (case hr => first | (go_simp; done) | (go_simp; rfl)); intro gb322 hg w84 hbox hb; have n0_ := Aside0.mk (Kd.R_below (by (with_reducible repeat (first | apply Kd.R_alloc | apply Kd.R_drewN | apply Kd.R_drew)); exact HO_7.out) hb); have n1_ := Aside0.mk (below_step (by repeat (first | (with_reducible first | exact HB.out | apply below_alloc | apply pw_below_drewN | apply below_drew1) | exact HB.out)) hb); have n2_ := Aside0.mk (hbox); have n3_ := Aside0.mk ((by rw [hg]; exact (below_size (by repeat (first | (with_reducible first | exact HB.out | apply below_alloc | apply pw_below_drewN | apply below_drew1) | exact HB.out))) : w.heap.size ≤ gb322)); have n4_ := Aside0.mk ((by rw [hg]; exact (below_size (by repeat (first | (with_reducible first | exact HB.out | apply below_alloc | apply pw_below_drewN | apply below_drew1) | exact HB.out))) : w.heap.size ≤ gb322)); clear HO_7; clear HB; have HO_7 := n0_; have HB := n1_; have BK322 := n2_; have GW322 := n3_; have GE322 := n4_; clear n0_ n1_ n2_ n3_ n4_; clear hb hbox hg; have hcz85_0 : w84.cell? ⟨gb322, 0, none⟩ = some (.int .i64 0) := (blk_cell BK322.out 0).trans rfl; have hcz85_1 : w84.cell? ⟨gb322, 1, none⟩ = some (.int .i64 0) := (blk_cell BK322.out 1).trans rfl; have hcz85_2 : w84.cell? ⟨gb322, 2, none⟩ = some (.string (⟨#[]⟩ : ByteArray)) := (blk_cell BK322.out 2).trans rfl; have hcz85_3 : w84.cell? ⟨gb322, 3, none⟩ = some (.slice none 0 0) := (blk_cell BK322.out 3).trans rfl; have hfz85_0 := blk_frozen BK322.out 0; have hfz85_1 := blk_frozen BK322.out 1; have hfz85_2 := blk_frozen BK322.out 2; have hfz85_3 := blk_frozen BK322.out 3; obtain ⟨Ao86, co86, eo86⟩ := Kd.R_slice HO_7.out; subst eo86) | ((with_reducible refine gate_callee (f := 27) rfl ?_); refine goesL_ (some 180) rfl rfl Try.func27 (by kernel_rfl) rfl #[.slice Ao86 t318.length co86, .int .i64 x13_3, .int .i64 (((rd_T44 l1 x14_3).f3).length : Int)] rfl (by (try simp only [List.map_toArray, List.map_cons, List.map_nil]); first | done | rfl | (simp only [List.length_drop, List.length_take]; rfl)) ?_; (with_reducible refine (varint_GetList.calls k3 _ _ t318 x13_3 (((rd_T44 l1 x14_3).f3).length : Int) t329 t330 t331 _ ?side1 ?side2 A80.out).mono ?_); (case side1 => refine (Kd.R_reads' (e := 5) (base := w.heap.size) (ok := fun k_ => (w.heap.size ≤ k_)) (n := t318.length) (c := co86) ?_).2.2; exact (by (with_reducible repeat (first | apply Kd.R_alloc | apply Kd.R_drewN | apply Kd.R_drew)); exact (Kd.R_mono (Kd.R_far (p := ⟨gb322, 3, none⟩) (Kd.R_far (p := ⟨gb322, 2, none⟩) (Kd.R_far (p := ⟨gb322, 1, none⟩) (Kd.R_far (p := ⟨gb322, 0, none⟩) (Kd.R_types HO_7.out BK322.out (by decide)) (fun _ hk => hk.2) (.int .i64 ((rd_T44 l1 x14_3).f0))) (fun _ hk => hk.2) (.int .i64 ((rd_T44 l1 x14_3).f1))) (fun _ hk => hk.2) (.string ((rd_T44 l1 x14_3).f2))) (fun _ hk => hk.2) (.slice A321_3 ((rd_T44 l1 x14_3).f3).length c321_3)) (fun _ h_ => h_.1)))); (case side2 => exact (Kd.R_reads' HO_7.out).2.1); rintro e w87 ⟨v332, rfl, ho0, hb⟩; refine ⟨_, rfl, ?_⟩; have n0_ := Aside0.mk (Kd.R_below (by (with_reducible repeat (first | apply Kd.R_alloc | apply Kd.R_drewN | apply Kd.R_drew)); exact (Kd.R_mono (Kd.R_far (p := ⟨gb322, 3, none⟩) (Kd.R_far (p := ⟨gb322, 2, none⟩) (Kd.R_far (p := ⟨gb322, 1, none⟩) (Kd.R_far (p := ⟨gb322, 0, none⟩) (Kd.R_types HO_7.out BK322.out (by decide)) (fun _ hk => hk.2) (.int .i64 ((rd_T44 l1 x14_3).f0))) (fun _ hk => hk.2) (.int .i64 ((rd_T44 l1 x14_3).f1))) (fun _ hk => hk.2) (.string ((rd_T44 l1 x14_3).f2))) (fun _ hk => hk.2) (.slice A321_3 ((rd_T44 l1 x14_3).f3).length c321_3)) (fun _ h_ => h_.1))) hb); have n1_ := Aside0.mk (Kd.R_lower (Kd.R_newM (M := fun k_ => (w.heap.size ≤ k_)) ho0 (below_size (by repeat (first | (with_reducible first | exact HB.out | apply below_alloc | apply pw_below_drewN | apply below_drew1 | refine below_set ?_ GE322.out) | exact HB.out))) (fun k_ h_ => h_)) (below_size (by repeat (first | (with_reducible first | exact HB.out | apply below_alloc | apply pw_below_drewN | apply below_drew1 | refine below_set ?_ GE322.out) | exact HB.out)))); have n2_ := Aside0.mk (blk_below (g := gb322) (o := .cells #[.int .i64 ((rd_T44 l1 x14_3).f0), .int .i64 ((rd_T44 l1 x14_3).f1), .string ((rd_T44 l1 x14_3).f2), .slice A321_3 ((rd_T44 l1 x14_3).f3).length c321_3] 44 (0, 0)) (by (with_reducible repeat (first | refine blk_drewN ?_ _ | refine blk_drew ?_ | refine blk_alloc ?_ _)); refine blk_put (cs := #[.int .i64 ((rd_T44 l1 x14_3).f0), .int .i64 ((rd_T44 l1 x14_3).f1), .string ((rd_T44 l1 x14_3).f2), .slice none 0 0]) ?_ 3 _ rfl; (with_reducible repeat (first | refine blk_drewN ?_ _ | refine blk_drew ?_ | refine blk_alloc ?_ _)); refine blk_put (cs := #[.int .i64 ((rd_T44 l1 x14_3).f0), .int .i64 ((rd_T44 l1 x14_3).f1), .string (⟨#[]⟩ : ByteArray), .slice none 0 0]) ?_ 2 _ rfl; (with_reducible repeat (first | refine blk_drewN ?_ _ | refine blk_drew ?_ | refine blk_alloc ?_ _)); refine blk_put (cs := #[.int .i64 ((rd_T44 l1 x14_3).f0), .int .i64 0, .string (⟨#[]⟩ : ByteArray), .slice none 0 0]) ?_ 1 _ rfl; (with_reducible repeat (first | refine blk_drewN ?_ _ | refine blk_drew ?_ | refine blk_alloc ?_ _)); refine blk_put (cs := #[.int .i64 0, .int .i64 0, .string (⟨#[]⟩ : ByteArray), .slice none 0 0]) ?_ 0 _ rfl; (with_reducible repeat (first | refine blk_drewN ?_ _ | refine blk_drew ?_ | refine blk_alloc ?_ _)); exact BK322.out) hb); have n3_ := Aside0.mk (below_step (by repeat (first | (with_reducible first | exact HB.out | apply below_alloc | apply pw_below_drewN | apply below_drew1 | refine below_set ?_ GE322.out) | exact HB.out)) hb); clear HO_7; clear BK322; clear HB; have HO_7 := n0_; have HO333 := n1_; have BK322 := n2_; have HB := n3_; clear n0_ n1_ n2_ n3_; (try clear hb); (try clear hb2); (try clear hk); (try clear hi); (try clear ho0); have hcz88_0 : w87.cell? ⟨gb322, 0, none⟩ = some (.int .i64 ((rd_T44 l1 x14_3).f0)) := (blk_cell BK322.out 0).trans rfl; have hcz88_1 : w87.cell? ⟨gb322, 1, none⟩ = some (.int .i64 ((rd_T44 l1 x14_3).f1)) := (blk_cell BK322.out 1).trans rfl; have hcz88_2 : w87.cell? ⟨gb322, 2, none⟩ = some (.string ((rd_T44 l1 x14_3).f2)) := (blk_cell BK322.out 2).trans rfl; have hcz88_3 : w87.cell? ⟨gb322, 3, none⟩ = some (.slice A321_3 ((rd_T44 l1 x14_3).f3).length c321_3) := (blk_cell BK322.out 3).trans rfl; have hfz88_0 := blk_frozen BK322.out 0; have hfz88_1 := blk_frozen BK322.out 1; have hfz88_2 := blk_frozen BK322.out 2; have hfz88_3 := blk_frozen BK322.out 3; obtain ⟨Ao89, co89, eo89⟩ := Kd.R_slice HO333.out; subst eo89) | (go_at_call 29; (with_reducible refine (codesearchref03_SameInts.calls k3 _ _ t329 _ _ ((rd_T44 l1 x14_3).f3) true _ ?side1 ?side2 ?side3 ?side4 A82.out).mono ?_); (case side1 => repeat (first | exact (Kd.R_reads' HO333.out).2.2 | (with_reducible refine Kd.C_alloc ?_ _) | (with_reducible refine Kd.C_drewN ?_ _) | (with_reducible refine Kd.C_drew ?_))); (case side2 => exact (Kd.R_reads' HO333.out).2.1); (case side3 => repeat (first | exact (Kd.C_below HR321_3.out HB.out) | (with_reducible refine Kd.C_alloc ?_ _) | (with_reducible refine Kd.C_drewN ?_ _) | (with_reducible refine Kd.C_drew ?_))); (case side4 => exact HC321_3.out); rintro e w' ⟨rfl, ⟨nd, rfl⟩⟩))
                go_roundg k3
                case measure => have := HJ5.out; have := HK2.out; have := HK3.out; omega
                case rel => exact ⟨(t330), (wrap64 (x14_3 + 1)), (by first | rfl | (simp; done) | (simp [*]; done)), (by first | rfl | (simp; done) | (simp [*]; done)), H', ⟨by have := HJ5.out; have := HK2.out; have := HK3.out; omega⟩, ⟨by (with_reducible repeat (first | apply Kd.R_alloc | apply Kd.R_drewN | apply Kd.R_drew)); exact HO_7.out⟩, ⟨by repeat (first | (with_reducible first | exact HB.out | apply below_alloc | apply pw_below_drewN | apply below_drew1 | refine below_set ?_ GE322.out) | exact HB.out)⟩⟩
               ·replace c83 := Bool.eq_false_iff.mpr c83
                subst c83
                have H1 : (some false) = some r := by rw [if_neg (show ¬ (false = true) by decide)] at H; exact H
                clear H
                have H := H1
                clear H1
                obtain rfl := Option.some.inj H
                have p321 : 0 ≤ (x14_3 : Int) := of_decide_eq_true (by first | (with_reducible assumption) | assumption)
                have q321 : x14_3 < (l1.length : Int) := of_decide_eq_true (by first | (with_reducible assumption) | assumption)
                obtain ⟨ad321, A321_3, c321_3, e321, hx321_0, hx321_1, hx321_2, hx321_3, hl321_3, hi321_3⟩ := at_T44 HR1.out x14_3 p321 q321
                cases e321
                replace hx321_0 := (HB.out.cell (World.block_lt_of_cell? w _ hx321_0)).trans hx321_0
                replace hx321_1 := (HB.out.cell (World.block_lt_of_cell? w _ hx321_1)).trans hx321_1
                replace hx321_2 := (HB.out.cell (World.block_lt_of_cell? w _ hx321_2)).trans hx321_2
                replace hx321_3 := (HB.out.cell (World.block_lt_of_cell? w _ hx321_3)).trans hx321_3
                have HR321_3 := Aside0.mk hi321_3
                have HC321_3 := Aside0.mk hl321_3
                clear hi321_3 hl321_3
                replace p321 := eq_true p321
                replace q321 := eq_true q321
                go_wp2_with (first | ((with_reducible refine gate_dst (N := 15) rfl ?_); (try (refine gate_guard (by rfl) ?_; dsimp only)); refine box_event ?hg (N := 15) ?hd (cs := #[.int .i64 0, .int .i64 0, .string (⟨#[]⟩ : ByteArray), .slice none 0 0]) (t := 44) ?hr ?_; (case hd => rfl); (case hg => rfl); (case hr => first | (go_simp; done) | (go_simp; rfl)); intro gb322 hg w90 hbox hb; have n0_ := Aside0.mk (Kd.R_below (by (with_reducible repeat (first | apply Kd.R_alloc | apply Kd.R_drewN | apply Kd.R_drew)); exact HO_7.out) hb); have n1_ := Aside0.mk (below_step (by repeat (first | (with_reducible first | exact HB.out | apply below_alloc | apply pw_below_drewN | apply below_drew1) | exact HB.out)) hb); have n2_ := Aside0.mk (hbox); have n3_ := Aside0.mk ((by rw [hg]; exact (below_size (by repeat (first | (with_reducible first | exact HB.out | apply below_alloc | apply pw_below_drewN | apply below_drew1) | exact HB.out))) : w.heap.size ≤ gb322)); have n4_ := Aside0.mk ((by rw [hg]; exact (below_size (by repeat (first | (with_reducible first | exact HB.out | apply below_alloc | apply pw_below_drewN | apply below_drew1) | exact HB.out))) : w.heap.size ≤ gb322)); clear HO_7; clear HB; have HO_7 := n0_; have HB := n1_; have BK322 := n2_; have GW322 := n3_; have GE322 := n4_; clear n0_ n1_ n2_ n3_ n4_; clear hb hbox hg; have hcz91_0 : w90.cell? ⟨gb322, 0, none⟩ = some (.int .i64 0) := (blk_cell BK322.out 0).trans rfl; have hcz91_1 : w90.cell? ⟨gb322, 1, none⟩ = some (.int .i64 0) := (blk_cell BK322.out 1).trans rfl; have hcz91_2 : w90.cell? ⟨gb322, 2, none⟩ = some (.string (⟨#[]⟩ : ByteArray)) := (blk_cell BK322.out 2).trans rfl; have hcz91_3 : w90.cell? ⟨gb322, 3, none⟩ = some (.slice none 0 0) := (blk_cell BK322.out 3).trans rfl; have hfz91_0 := blk_frozen BK322.out 0; have hfz91_1 := blk_frozen BK322.out 1; have hfz91_2 := blk_frozen BK322.out 2; have hfz91_3 := blk_frozen BK322.out 3; obtain ⟨Ao92, co92, eo92⟩ := Kd.R_slice HO_7.out; subst eo92) | ((with_reducible refine gate_callee (f := 27) rfl ?_); refine goesL_ (some 180) rfl rfl Try.func27 (by kernel_rfl) rfl #[.slice Ao92 t318.length co92, .int .i64 x13_3, .int .i64 (((rd_T44 l1 x14_3).f3).length : Int)] rfl (by (try simp only [List.map_toArray, List.map_cons, List.map_nil]); first | done | rfl | (simp only [List.length_drop, List.length_take]; rfl)) ?_; (with_reducible refine (varint_GetList.calls k3 _ _ t318 x13_3 (((rd_T44 l1 x14_3).f3).length : Int) t329 t330 t331 _ ?side1 ?side2 A80.out).mono ?_); (case side1 => refine (Kd.R_reads' (e := 5) (base := w.heap.size) (ok := fun k_ => (w.heap.size ≤ k_)) (n := t318.length) (c := co92) ?_).2.2; exact (by (with_reducible repeat (first | apply Kd.R_alloc | apply Kd.R_drewN | apply Kd.R_drew)); exact (Kd.R_mono (Kd.R_far (p := ⟨gb322, 3, none⟩) (Kd.R_far (p := ⟨gb322, 2, none⟩) (Kd.R_far (p := ⟨gb322, 1, none⟩) (Kd.R_far (p := ⟨gb322, 0, none⟩) (Kd.R_types HO_7.out BK322.out (by decide)) (fun _ hk => hk.2) (.int .i64 ((rd_T44 l1 x14_3).f0))) (fun _ hk => hk.2) (.int .i64 ((rd_T44 l1 x14_3).f1))) (fun _ hk => hk.2) (.string ((rd_T44 l1 x14_3).f2))) (fun _ hk => hk.2) (.slice A321_3 ((rd_T44 l1 x14_3).f3).length c321_3)) (fun _ h_ => h_.1)))); (case side2 => exact (Kd.R_reads' HO_7.out).2.1); rintro e w93 ⟨v332, rfl, ho0, hb⟩; refine ⟨_, rfl, ?_⟩; have n0_ := Aside0.mk (Kd.R_below (by (with_reducible repeat (first | apply Kd.R_alloc | apply Kd.R_drewN | apply Kd.R_drew)); exact (Kd.R_mono (Kd.R_far (p := ⟨gb322, 3, none⟩) (Kd.R_far (p := ⟨gb322, 2, none⟩) (Kd.R_far (p := ⟨gb322, 1, none⟩) (Kd.R_far (p := ⟨gb322, 0, none⟩) (Kd.R_types HO_7.out BK322.out (by decide)) (fun _ hk => hk.2) (.int .i64 ((rd_T44 l1 x14_3).f0))) (fun _ hk => hk.2) (.int .i64 ((rd_T44 l1 x14_3).f1))) (fun _ hk => hk.2) (.string ((rd_T44 l1 x14_3).f2))) (fun _ hk => hk.2) (.slice A321_3 ((rd_T44 l1 x14_3).f3).length c321_3)) (fun _ h_ => h_.1))) hb); have n1_ := Aside0.mk (Kd.R_lower (Kd.R_newM (M := fun k_ => (w.heap.size ≤ k_)) ho0 (below_size (by repeat (first | (with_reducible first | exact HB.out | apply below_alloc | apply pw_below_drewN | apply below_drew1 | refine below_set ?_ GE322.out) | exact HB.out))) (fun k_ h_ => h_)) (below_size (by repeat (first | (with_reducible first | exact HB.out | apply below_alloc | apply pw_below_drewN | apply below_drew1 | refine below_set ?_ GE322.out) | exact HB.out)))); have n2_ := Aside0.mk (blk_below (g := gb322) (o := .cells #[.int .i64 ((rd_T44 l1 x14_3).f0), .int .i64 ((rd_T44 l1 x14_3).f1), .string ((rd_T44 l1 x14_3).f2), .slice A321_3 ((rd_T44 l1 x14_3).f3).length c321_3] 44 (0, 0)) (by (with_reducible repeat (first | refine blk_drewN ?_ _ | refine blk_drew ?_ | refine blk_alloc ?_ _)); refine blk_put (cs := #[.int .i64 ((rd_T44 l1 x14_3).f0), .int .i64 ((rd_T44 l1 x14_3).f1), .string ((rd_T44 l1 x14_3).f2), .slice none 0 0]) ?_ 3 _ rfl; (with_reducible repeat (first | refine blk_drewN ?_ _ | refine blk_drew ?_ | refine blk_alloc ?_ _)); refine blk_put (cs := #[.int .i64 ((rd_T44 l1 x14_3).f0), .int .i64 ((rd_T44 l1 x14_3).f1), .string (⟨#[]⟩ : ByteArray), .slice none 0 0]) ?_ 2 _ rfl; (with_reducible repeat (first | refine blk_drewN ?_ _ | refine blk_drew ?_ | refine blk_alloc ?_ _)); refine blk_put (cs := #[.int .i64 ((rd_T44 l1 x14_3).f0), .int .i64 0, .string (⟨#[]⟩ : ByteArray), .slice none 0 0]) ?_ 1 _ rfl; (with_reducible repeat (first | refine blk_drewN ?_ _ | refine blk_drew ?_ | refine blk_alloc ?_ _)); refine blk_put (cs := #[.int .i64 0, .int .i64 0, .string (⟨#[]⟩ : ByteArray), .slice none 0 0]) ?_ 0 _ rfl; (with_reducible repeat (first | refine blk_drewN ?_ _ | refine blk_drew ?_ | refine blk_alloc ?_ _)); exact BK322.out) hb); have n3_ := Aside0.mk (below_step (by repeat (first | (with_reducible first | exact HB.out | apply below_alloc | apply pw_below_drewN | apply below_drew1 | refine below_set ?_ GE322.out) | exact HB.out)) hb); clear HO_7; clear BK322; clear HB; have HO_7 := n0_; have HO333 := n1_; have BK322 := n2_; have HB := n3_; clear n0_ n1_ n2_ n3_; (try clear hb); (try clear hb2); (try clear hk); (try clear hi); (try clear ho0); have hcz94_0 : w93.cell? ⟨gb322, 0, none⟩ = some (.int .i64 ((rd_T44 l1 x14_3).f0)) := (blk_cell BK322.out 0).trans rfl; have hcz94_1 : w93.cell? ⟨gb322, 1, none⟩ = some (.int .i64 ((rd_T44 l1 x14_3).f1)) := (blk_cell BK322.out 1).trans rfl; have hcz94_2 : w93.cell? ⟨gb322, 2, none⟩ = some (.string ((rd_T44 l1 x14_3).f2)) := (blk_cell BK322.out 2).trans rfl; have hcz94_3 : w93.cell? ⟨gb322, 3, none⟩ = some (.slice A321_3 ((rd_T44 l1 x14_3).f3).length c321_3) := (blk_cell BK322.out 3).trans rfl; have hfz94_0 := blk_frozen BK322.out 0; have hfz94_1 := blk_frozen BK322.out 1; have hfz94_2 := blk_frozen BK322.out 2; have hfz94_3 := blk_frozen BK322.out 3; obtain ⟨Ao95, co95, eo95⟩ := Kd.R_slice HO333.out; subst eo95) | (go_at_call 29; (with_reducible refine (codesearchref03_SameInts.calls k3 _ _ t329 _ _ ((rd_T44 l1 x14_3).f3) false _ ?side1 ?side2 ?side3 ?side4 A82.out).mono ?_); (case side1 => repeat (first | exact (Kd.R_reads' HO333.out).2.2 | (with_reducible refine Kd.C_alloc ?_ _) | (with_reducible refine Kd.C_drewN ?_ _) | (with_reducible refine Kd.C_drew ?_))); (case side2 => exact (Kd.R_reads' HO333.out).2.1); (case side3 => repeat (first | exact (Kd.C_below HR321_3.out HB.out) | (with_reducible refine Kd.C_alloc ?_ _) | (with_reducible refine Kd.C_drewN ?_ _) | (with_reducible refine Kd.C_drew ?_))); (case side4 => exact HC321_3.out); rintro e w' ⟨rfl, ⟨nd, rfl⟩⟩))
                go_ret
                exact ⟨by first | rfl | (simp [errW_none, errW_some] <;> rfl) | (simp [*, errW_none, errW_some] <;> rfl), by repeat (first | (with_reducible first | exact HB.out | apply below_alloc | apply pw_below_drewN | apply below_drew1 | refine below_set ?_ GE322.out) | exact HB.out)⟩
              ·rw [if_neg c81] at H
               have c81b0 : (t331 == 0) = false := beq_eq_false_iff_ne.mpr c81
               have c81b1 : (t331 != 0) = true := bne_iff_ne.mpr c81
               obtain rfl := Option.some.inj H
               have p321 : 0 ≤ (x14_3 : Int) := of_decide_eq_true (by first | (with_reducible assumption) | assumption)
               have q321 : x14_3 < (l1.length : Int) := of_decide_eq_true (by first | (with_reducible assumption) | assumption)
               obtain ⟨ad321, A321_3, c321_3, e321, hx321_0, hx321_1, hx321_2, hx321_3, hl321_3, hi321_3⟩ := at_T44 HR1.out x14_3 p321 q321
               cases e321
               replace hx321_0 := (HB.out.cell (World.block_lt_of_cell? w _ hx321_0)).trans hx321_0
               replace hx321_1 := (HB.out.cell (World.block_lt_of_cell? w _ hx321_1)).trans hx321_1
               replace hx321_2 := (HB.out.cell (World.block_lt_of_cell? w _ hx321_2)).trans hx321_2
               replace hx321_3 := (HB.out.cell (World.block_lt_of_cell? w _ hx321_3)).trans hx321_3
               have HR321_3 := Aside0.mk hi321_3
               have HC321_3 := Aside0.mk hl321_3
               clear hi321_3 hl321_3
               replace p321 := eq_true p321
               replace q321 := eq_true q321
               go_wp2_with (first | ((with_reducible refine gate_dst (N := 15) rfl ?_); (try (refine gate_guard (by rfl) ?_; dsimp only)); refine box_event ?hg (N := 15) ?hd (cs := #[.int .i64 0, .int .i64 0, .string (⟨#[]⟩ : ByteArray), .slice none 0 0]) (t := 44) ?hr ?_; (case hd => rfl); (case hg => rfl); (case hr => first | (go_simp; done) | (go_simp; rfl)); intro gb322 hg w96 hbox hb; have n0_ := Aside0.mk (Kd.R_below (by (with_reducible repeat (first | apply Kd.R_alloc | apply Kd.R_drewN | apply Kd.R_drew)); exact HO_7.out) hb); have n1_ := Aside0.mk (below_step (by repeat (first | (with_reducible first | exact HB.out | apply below_alloc | apply pw_below_drewN | apply below_drew1) | exact HB.out)) hb); have n2_ := Aside0.mk (hbox); have n3_ := Aside0.mk ((by rw [hg]; exact (below_size (by repeat (first | (with_reducible first | exact HB.out | apply below_alloc | apply pw_below_drewN | apply below_drew1) | exact HB.out))) : w.heap.size ≤ gb322)); have n4_ := Aside0.mk ((by rw [hg]; exact (below_size (by repeat (first | (with_reducible first | exact HB.out | apply below_alloc | apply pw_below_drewN | apply below_drew1) | exact HB.out))) : w.heap.size ≤ gb322)); clear HO_7; clear HB; have HO_7 := n0_; have HB := n1_; have BK322 := n2_; have GW322 := n3_; have GE322 := n4_; clear n0_ n1_ n2_ n3_ n4_; clear hb hbox hg; have hcz97_0 : w96.cell? ⟨gb322, 0, none⟩ = some (.int .i64 0) := (blk_cell BK322.out 0).trans rfl; have hcz97_1 : w96.cell? ⟨gb322, 1, none⟩ = some (.int .i64 0) := (blk_cell BK322.out 1).trans rfl; have hcz97_2 : w96.cell? ⟨gb322, 2, none⟩ = some (.string (⟨#[]⟩ : ByteArray)) := (blk_cell BK322.out 2).trans rfl; have hcz97_3 : w96.cell? ⟨gb322, 3, none⟩ = some (.slice none 0 0) := (blk_cell BK322.out 3).trans rfl; have hfz97_0 := blk_frozen BK322.out 0; have hfz97_1 := blk_frozen BK322.out 1; have hfz97_2 := blk_frozen BK322.out 2; have hfz97_3 := blk_frozen BK322.out 3; obtain ⟨Ao98, co98, eo98⟩ := Kd.R_slice HO_7.out; subst eo98) | ((with_reducible refine gate_callee (f := 27) rfl ?_); refine goesL_ (some 180) rfl rfl Try.func27 (by kernel_rfl) rfl #[.slice Ao98 t318.length co98, .int .i64 x13_3, .int .i64 (((rd_T44 l1 x14_3).f3).length : Int)] rfl (by (try simp only [List.map_toArray, List.map_cons, List.map_nil]); first | done | rfl | (simp only [List.length_drop, List.length_take]; rfl)) ?_; (with_reducible refine (varint_GetList.calls k3 _ _ t318 x13_3 (((rd_T44 l1 x14_3).f3).length : Int) t329 t330 t331 _ ?side1 ?side2 A80.out).mono ?_); (case side1 => refine (Kd.R_reads' (e := 5) (base := w.heap.size) (ok := fun k_ => (w.heap.size ≤ k_)) (n := t318.length) (c := co98) ?_).2.2; exact (by (with_reducible repeat (first | apply Kd.R_alloc | apply Kd.R_drewN | apply Kd.R_drew)); exact (Kd.R_mono (Kd.R_far (p := ⟨gb322, 3, none⟩) (Kd.R_far (p := ⟨gb322, 2, none⟩) (Kd.R_far (p := ⟨gb322, 1, none⟩) (Kd.R_far (p := ⟨gb322, 0, none⟩) (Kd.R_types HO_7.out BK322.out (by decide)) (fun _ hk => hk.2) (.int .i64 ((rd_T44 l1 x14_3).f0))) (fun _ hk => hk.2) (.int .i64 ((rd_T44 l1 x14_3).f1))) (fun _ hk => hk.2) (.string ((rd_T44 l1 x14_3).f2))) (fun _ hk => hk.2) (.slice A321_3 ((rd_T44 l1 x14_3).f3).length c321_3)) (fun _ h_ => h_.1)))); (case side2 => exact (Kd.R_reads' HO_7.out).2.1); rintro e w99 ⟨v332, rfl, ho0, hb⟩; refine ⟨_, rfl, ?_⟩; have n0_ := Aside0.mk (Kd.R_below (by (with_reducible repeat (first | apply Kd.R_alloc | apply Kd.R_drewN | apply Kd.R_drew)); exact (Kd.R_mono (Kd.R_far (p := ⟨gb322, 3, none⟩) (Kd.R_far (p := ⟨gb322, 2, none⟩) (Kd.R_far (p := ⟨gb322, 1, none⟩) (Kd.R_far (p := ⟨gb322, 0, none⟩) (Kd.R_types HO_7.out BK322.out (by decide)) (fun _ hk => hk.2) (.int .i64 ((rd_T44 l1 x14_3).f0))) (fun _ hk => hk.2) (.int .i64 ((rd_T44 l1 x14_3).f1))) (fun _ hk => hk.2) (.string ((rd_T44 l1 x14_3).f2))) (fun _ hk => hk.2) (.slice A321_3 ((rd_T44 l1 x14_3).f3).length c321_3)) (fun _ h_ => h_.1))) hb); have n1_ := Aside0.mk (Kd.R_lower (Kd.R_newM (M := fun k_ => (w.heap.size ≤ k_)) ho0 (below_size (by repeat (first | (with_reducible first | exact HB.out | apply below_alloc | apply pw_below_drewN | apply below_drew1 | refine below_set ?_ GE322.out) | exact HB.out))) (fun k_ h_ => h_)) (below_size (by repeat (first | (with_reducible first | exact HB.out | apply below_alloc | apply pw_below_drewN | apply below_drew1 | refine below_set ?_ GE322.out) | exact HB.out)))); have n2_ := Aside0.mk (blk_below (g := gb322) (o := .cells #[.int .i64 ((rd_T44 l1 x14_3).f0), .int .i64 ((rd_T44 l1 x14_3).f1), .string ((rd_T44 l1 x14_3).f2), .slice A321_3 ((rd_T44 l1 x14_3).f3).length c321_3] 44 (0, 0)) (by (with_reducible repeat (first | refine blk_drewN ?_ _ | refine blk_drew ?_ | refine blk_alloc ?_ _)); refine blk_put (cs := #[.int .i64 ((rd_T44 l1 x14_3).f0), .int .i64 ((rd_T44 l1 x14_3).f1), .string ((rd_T44 l1 x14_3).f2), .slice none 0 0]) ?_ 3 _ rfl; (with_reducible repeat (first | refine blk_drewN ?_ _ | refine blk_drew ?_ | refine blk_alloc ?_ _)); refine blk_put (cs := #[.int .i64 ((rd_T44 l1 x14_3).f0), .int .i64 ((rd_T44 l1 x14_3).f1), .string (⟨#[]⟩ : ByteArray), .slice none 0 0]) ?_ 2 _ rfl; (with_reducible repeat (first | refine blk_drewN ?_ _ | refine blk_drew ?_ | refine blk_alloc ?_ _)); refine blk_put (cs := #[.int .i64 ((rd_T44 l1 x14_3).f0), .int .i64 0, .string (⟨#[]⟩ : ByteArray), .slice none 0 0]) ?_ 1 _ rfl; (with_reducible repeat (first | refine blk_drewN ?_ _ | refine blk_drew ?_ | refine blk_alloc ?_ _)); refine blk_put (cs := #[.int .i64 0, .int .i64 0, .string (⟨#[]⟩ : ByteArray), .slice none 0 0]) ?_ 0 _ rfl; (with_reducible repeat (first | refine blk_drewN ?_ _ | refine blk_drew ?_ | refine blk_alloc ?_ _)); exact BK322.out) hb); have n3_ := Aside0.mk (below_step (by repeat (first | (with_reducible first | exact HB.out | apply below_alloc | apply pw_below_drewN | apply below_drew1 | refine below_set ?_ GE322.out) | exact HB.out)) hb); clear HO_7; clear BK322; clear HB; have HO_7 := n0_; have HO333 := n1_; have BK322 := n2_; have HB := n3_; clear n0_ n1_ n2_ n3_; (try clear hb); (try clear hb2); (try clear hk); (try clear hi); (try clear ho0)))
               go_ret
               exact ⟨by first | rfl | (simp [errW_none, errW_some] <;> rfl) | (simp [*, errW_none, errW_some] <;> rfl), by repeat (first | (with_reducible first | exact HB.out | apply below_alloc | apply pw_below_drewN | apply below_drew1 | refine below_set ?_ GE322.out) | exact HB.out)⟩
           ·rw [if_neg c53] at H
            exact absurd H (by simp)
          ·rw [if_neg c52] at H
           have c52b0 : decide (x14_3 < (l1.length : Int)) = false := decide_eq_false c52
           clear c52
           obtain rfl := Option.some.inj H
           go_wp2
           go_ret
           exact ⟨by first | rfl | (simp [errW_none, errW_some] <;> rfl) | (simp [*, errW_none, errW_some] <;> rfl), by repeat (first | (with_reducible first | exact HB.out | apply below_alloc | apply pw_below_drewN | apply below_drew1) | exact HB.out)⟩
 ·replace c5 := Bool.eq_false_iff.mpr c5
  subst c5
  have H1 : (some false) = some r := by rw [if_neg (show ¬ (false = true) by decide)] at H; exact H
  clear H
  have H := H1
  clear H1
  obtain rfl := Option.some.inj H
  go_enter Try.func8, Try.ntmps8
  go_wp2_with (first | ((with_reducible refine gate_callee (f := 15) rfl ?_); refine goesL_ (some 25) rfl rfl Try.func15 (by kernel_rfl) rfl #[] rfl (by (try simp only [List.map_toArray, List.map_cons, List.map_nil]); first | done | rfl | (simp only [List.length_drop, List.length_take]; rfl)) ?_; (with_reducible refine (codesearchlaw03_alive.calls k  false _ A4.out).mono ?_); rintro e w100 ⟨rfl, hb⟩; refine ⟨_, rfl, ?_⟩; have n0_ := Aside0.mk (Kd.V_below (by (with_reducible repeat (first | apply Kd.V_alloc | apply Kd.V_drewN | apply Kd.V_drew)); exact HO0.out) hb); have n1_ := Aside0.mk (below_step (by repeat (first | (with_reducible first | exact HB.out | apply below_alloc | apply pw_below_drewN | apply below_drew1) | exact HB.out)) hb); clear HO0; clear HB; have HO0 := n0_; have HB := n1_; clear n0_ n1_; (try clear hb); (try clear hb2); (try clear hk); (try clear hi)))
  go_ret
  exact ⟨by first | rfl | (simp [errW_none, errW_some] <;> rfl) | (simp [*, errW_none, errW_some] <;> rfl), by repeat (first | (with_reducible first | exact HB.out | apply below_alloc | apply pw_below_drewN | apply below_drew1) | exact HB.out)⟩

end Go.Proofs.Ytihfpmociffpeaa.V
