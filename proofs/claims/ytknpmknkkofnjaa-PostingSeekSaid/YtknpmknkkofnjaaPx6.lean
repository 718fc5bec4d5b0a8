-- Written by hp.py, a program of this session, over the kit's print of the translation. Not trusted: Lean checks it.
import Derived.Test.YtknpmknkkofnjaaPx0
import Derived.Test.YtknpmknkkofnjaaPx1
import Derived.Test.YtknpmknkkofnjaaPx2
import Derived.Test.YtknpmknkkofnjaaPx3
import Derived.Test.YtknpmknkkofnjaaPx5
namespace Go.Proofs.Ytknpmknkkofnjaa.P
open Go.RowKit Go.Proofs.YtknpmknkkofnjaaW.PrintWords Go.Proofs.YtknpmknkkofnjaaW.PrintLast Go.Proofs.YtknpmknkkofnjaaW.PrintMore
attribute [local go_sem] max2_int min2_int max_two min_two max_three min_three max_four min_four   -- for this text's walks alone
set_option linter.unusedVariables false
set_option linter.unusedSimpArgs false

/-! ### codesearchlaw05_alive: function 10 -/
mutual
def codesearchlaw05_alive.j0 : Nat → Bool → Option (Bool)
|0,_ => none
|k + 1,x34 => if x34 = true then (some false) else ((posting_AtLeast.f k 2 (([(([1,2] : List Int)),(([2,2] : List Int)),(([1] : List Int))] : List (List Int)))).bind fun t280 => ((codesearchref05_Same.f k t280 (([1,2] : List Int))).bind fun t286 => (if t286 = true then ((posting_Pack.f k (([5,300] : List Int))).bind fun bt290 => (if bt290.2 = 0 then ((codesearchlaw05_sameBytes.f bt290.1 (([2,172,2,4,2,5,167,2] : List Int))).bind fun t297 => (codesearchlaw05_alive.j1 k bt290.1 (!t297))) else (codesearchlaw05_alive.j1 k bt290.1 true))) else (some false))))
def codesearchlaw05_alive.j1 : Nat → List Int → Bool → Option (Bool)
|0,_,_ => none
|k + 1,x3,x55 => if x55 = true then (some false) else ((posting_Unpack.f k x3).bind fun bt298 => ((posting_Seek.f k x3 6).bind fun bt302 => ((posting_Seek.f k x3 301).bind fun bt304 => (if bt298.2 = 0 then ((codesearchref05_Same.f k bt298.1 (([5,300] : List Int))).bind fun t309 => (if t309 = true then (if bt302.2 = true then (if bt302.1 = 300 then (if bt304.2 = true then (some false) else ((posting_Has.f k bt298.1 5).bind fun t310 => (some t310))) else (some false)) else (some false)) else (some false))) else (some false)))))
end
def codesearchlaw05_alive.f (k : Nat)  : Option (Bool) := (some (([1, 3, 5] : List Int) : List Int)).bind fun y241 => ((some (([5, 3, 3] : List Int) : List Int)).bind fun y244 => ((posting_And.f y241 y244).bind fun t247 => ((codesearchref05_Same.f k t247 (([3, 5] : List Int))).bind fun t253 => (if t253 = true then ((posting_Or.f k y241 y244).bind fun t254 => ((codesearchref05_Same.f k t254 (([1, 3, 5] : List Int))).bind fun t260 => (if t260 = true then ((posting_Minus.f y241 y244).bind fun t261 => ((codesearchref05_Same.f k t261 (([1] : List Int))).bind fun t267 => (codesearchlaw05_alive.j0 k (!t267)))) else (codesearchlaw05_alive.j0 k true)))) else (codesearchlaw05_alive.j0 k true)))))
theorem codesearchlaw05_alive.mono_l : ∀ k, (∀ y0, LeO (codesearchlaw05_alive.j0 k y0) (codesearchlaw05_alive.j0 (k + 1) y0)) ∧ (∀ y0 y1, LeO (codesearchlaw05_alive.j1 k y0 y1) (codesearchlaw05_alive.j1 (k + 1) y0 y1))
|0 => ⟨fun _ r h => by simp [codesearchlaw05_alive.j0] at h,fun _ _ r h => by simp [codesearchlaw05_alive.j1] at h⟩
|k + 1 => by
  obtain ⟨ih0,ih1⟩ := codesearchlaw05_alive.mono_l k
  refine ⟨?_,?_⟩
  ·intro y0
   unfold codesearchlaw05_alive.j0
   repeat' first
  |(with_reducible exact ih0 _)
  |(with_reducible exact ih1 _ _)
  |(with_reducible exact codesearchref05_Same.mono _ _ _)
  |(with_reducible exact posting_AtLeast.mono _ _ _)
  |(with_reducible exact posting_Has.mono _ _ _)
  |(with_reducible exact posting_Or.mono _ _ _)
  |(with_reducible exact posting_Pack.mono _ _)
  |(with_reducible exact posting_Seek.mono _ _ _)
  |(with_reducible exact posting_Unpack.mono _ _)
  |(with_reducible exact LeO.refl _)
  |(with_reducible exact LeO.none _)
  |(with_reducible refine LeO.ite ?_ ?_)
  |(with_reducible refine LeO.bind ?_ (fun _ => ?_))
  |exact ih0 _
  |exact ih1 _ _
  |exact codesearchref05_Same.mono _ _ _
  |exact posting_AtLeast.mono _ _ _
  |exact posting_Has.mono _ _ _
  |exact posting_Or.mono _ _ _
  |exact posting_Pack.mono _ _
  |exact posting_Seek.mono _ _ _
  |exact posting_Unpack.mono _ _
  |exact LeO.none _
  |refine LeO.ite ?_ ?_
  |refine LeO.bind ?_ (fun _ => ?_)
  ·intro y0 y1
   unfold codesearchlaw05_alive.j1
   repeat' first
  |(with_reducible exact ih0 _)
  |(with_reducible exact ih1 _ _)
  |(with_reducible exact codesearchref05_Same.mono _ _ _)
  |(with_reducible exact posting_AtLeast.mono _ _ _)
  |(with_reducible exact posting_Has.mono _ _ _)
  |(with_reducible exact posting_Or.mono _ _ _)
  |(with_reducible exact posting_Pack.mono _ _)
  |(with_reducible exact posting_Seek.mono _ _ _)
  |(with_reducible exact posting_Unpack.mono _ _)
  |(with_reducible exact LeO.refl _)
  |(with_reducible exact LeO.none _)
  |(with_reducible refine LeO.ite ?_ ?_)
  |(with_reducible refine LeO.bind ?_ (fun _ => ?_))
  |exact ih0 _
  |exact ih1 _ _
  |exact codesearchref05_Same.mono _ _ _
  |exact posting_AtLeast.mono _ _ _
  |exact posting_Has.mono _ _ _
  |exact posting_Or.mono _ _ _
  |exact posting_Pack.mono _ _
  |exact posting_Seek.mono _ _ _
  |exact posting_Unpack.mono _ _
  |exact LeO.none _
  |refine LeO.ite ?_ ?_
  |refine LeO.bind ?_ (fun _ => ?_)
theorem codesearchlaw05_alive.mono : ∀ k, LeO (codesearchlaw05_alive.f k ) (codesearchlaw05_alive.f (k + 1) ) := by
 intro  k
 obtain ⟨ih0,ih1⟩ := codesearchlaw05_alive.mono_l k
 unfold codesearchlaw05_alive.f
 repeat' first
  |(with_reducible exact ih0 _)
  |(with_reducible exact ih1 _ _)
  |(with_reducible exact codesearchref05_Same.mono _ _ _)
  |(with_reducible exact posting_AtLeast.mono _ _ _)
  |(with_reducible exact posting_Has.mono _ _ _)
  |(with_reducible exact posting_Or.mono _ _ _)
  |(with_reducible exact posting_Pack.mono _ _)
  |(with_reducible exact posting_Seek.mono _ _ _)
  |(with_reducible exact posting_Unpack.mono _ _)
  |(with_reducible exact LeO.refl _)
  |(with_reducible exact LeO.none _)
  |(with_reducible refine LeO.ite ?_ ?_)
  |(with_reducible refine LeO.bind ?_ (fun _ => ?_))
  |exact ih0 _
  |exact ih1 _ _
  |exact codesearchref05_Same.mono _ _ _
  |exact posting_AtLeast.mono _ _ _
  |exact posting_Has.mono _ _ _
  |exact posting_Or.mono _ _ _
  |exact posting_Pack.mono _ _
  |exact posting_Seek.mono _ _ _
  |exact posting_Unpack.mono _ _
  |exact LeO.none _
  |refine LeO.ite ?_ ?_
  |refine LeO.bind ?_ (fun _ => ?_)
set_option maxHeartbeats 4000000 in
set_option maxRecDepth 100000 in
theorem codesearchlaw05_alive.calls (k : Nat)  (r : Bool) (w : World) (h : codesearchlaw05_alive.f k  = some r) :
  Calls Try.prog 10 #[] w fun e w' => e = .returned (.bool r) ∧ Below w.heap.size w w' := by
 have HB := Aside0.mk (Below.refl w.heap.size w)
 have H : ((some (([1,3,5] : List Int) : List Int)).bind fun y241 => ((some (([5,3,3] : List Int) : List Int)).bind fun y244 => ((posting_And.f y241 y244).bind fun t247 => ((codesearchref05_Same.f k t247 (([3,5] : List Int))).bind fun t253 => (if t253 = true then ((posting_Or.f k y241 y244).bind fun t254 => ((codesearchref05_Same.f k t254 (([1,3,5] : List Int))).bind fun t260 => (if t260 = true then ((posting_Minus.f y241 y244).bind fun t261 => ((codesearchref05_Same.f k t261 (([1] : List Int))).bind fun t267 => (codesearchlaw05_alive.j0 k (!t267)))) else (codesearchlaw05_alive.j0 k true)))) else (codesearchlaw05_alive.j0 k true)))))) = some r := h
 clear h
 obtain ⟨y241,hy241⟩ : ∃ y_ : List Int,y_ = (([1,3,5] : List Int)) := ⟨_,rfl⟩
 replace H : ((some (([5,3,3] : List Int) : List Int)).bind fun y244 => ((posting_And.f y241 y244).bind fun t247 => ((codesearchref05_Same.f k t247 (([3,5] : List Int))).bind fun t253 => (if t253 = true then ((posting_Or.f k y241 y244).bind fun t254 => ((codesearchref05_Same.f k t254 (([1,3,5] : List Int))).bind fun t260 => (if t260 = true then ((posting_Minus.f y241 y244).bind fun t261 => ((codesearchref05_Same.f k t261 (([1] : List Int))).bind fun t267 => (codesearchlaw05_alive.j0 k (!t267)))) else (codesearchlaw05_alive.j0 k true)))) else (codesearchlaw05_alive.j0 k true))))) = some r := by first|(rw [hy241];with_reducible exact H)|(have H2_ := (Option.bind_some _ _).symm.trans H;rw [hy241];with_reducible exact H2_)|(have H2_ := (Option.bind_some _ _).symm.trans H;with_reducible exact H2_)|with_reducible exact H|(rw [hy241];exact H)|exact H
 have Ny241 := Aside0.mk hy241
 clear hy241
 obtain ⟨y244,hy244⟩ : ∃ y_ : List Int,y_ = (([5,3,3] : List Int)) := ⟨_,rfl⟩
 replace H : ((posting_And.f y241 y244).bind fun t247 => ((codesearchref05_Same.f k t247 (([3,5] : List Int))).bind fun t253 => (if t253 = true then ((posting_Or.f k y241 y244).bind fun t254 => ((codesearchref05_Same.f k t254 (([1,3,5] : List Int))).bind fun t260 => (if t260 = true then ((posting_Minus.f y241 y244).bind fun t261 => ((codesearchref05_Same.f k t261 (([1] : List Int))).bind fun t267 => (codesearchlaw05_alive.j0 k (!t267)))) else (codesearchlaw05_alive.j0 k true)))) else (codesearchlaw05_alive.j0 k true)))) = some r := by first|(rw [hy244];with_reducible exact H)|(have H2_ := (Option.bind_some _ _).symm.trans H;rw [hy244];with_reducible exact H2_)|(have H2_ := (Option.bind_some _ _).symm.trans H;with_reducible exact H2_)|with_reducible exact H|(rw [hy244];exact H)|exact H
 have Ny244 := Aside0.mk hy244
 clear hy244
 have HC1 := Aside0.mk H
 clear H
 go_enter Try.func10,Try.ntmps10
 go_upto_region 2 with (first|((with_reducible refine gate_dst (N := 11) rfl ?_);(try (refine gate_guard (by rfl) ?_;dsimp only));refine Kd.R_lit (Kd.int .i64) _ 3 ?hg (N := 11) ?hd (xs := ([1,3,5] : List Int)) (inner := [.int .i64 1,.int .i64 3,.int .i64 5]) (ok := fun _ => True) (okp := fun _ => True) ?hr ?hp (fun _ hk => hk) trivial (Below.refl _ _) (Nat.le_refl _) (by simp) ?_;(case hd => rfl);(case hg => rfl);(case hr => first|(go_simp;done)|(go_simp;rfl));(case hp => exact (Reps.one (show Kd.M (Kd.int .i64) _ _ _ 1 [.int .i64 1] from rfl) (Reps.one (show Kd.M (Kd.int .i64) _ _ _ 3 [.int .i64 3] from rfl) (Reps.one (show Kd.M (Kd.int .i64) _ _ _ 5 [.int .i64 5] from rfl) (Reps.none _ _)))));intro v242 w2 ho3 hb hg_ hnew_;clear hg_ hnew_;(first|rw [← Ny241.out] at ho3|(simp only [Int.reduceToNat] at ho3;rw [← Ny241.out] at ho3));have n0_ := Aside0.mk (Kd.R_lower ho3 (below_size (bM HB.out)));have n1_ := Aside0.mk (below_step (bM HB.out) hb);clear HB;have HO243 := n0_;have HB := n1_;clear n0_ n1_;clear hb ho3)|((with_reducible refine gate_dst (N := 12) rfl ?_);(try (refine gate_guard (by rfl) ?_;dsimp only));refine Kd.R_lit (Kd.int .i64) _ 3 ?hg (N := 12) ?hd (xs := ([5,3,3] : List Int)) (inner := [.int .i64 5,.int .i64 3,.int .i64 3]) (ok := fun _ => True) (okp := fun _ => True) ?hr ?hp (fun _ hk => hk) trivial (Below.refl _ _) (Nat.le_refl _) (by simp) ?_;(case hd => rfl);(case hg => rfl);(case hr => first|(go_simp;done)|(go_simp;rfl));(case hp => exact (Reps.one (show Kd.M (Kd.int .i64) _ _ _ 5 [.int .i64 5] from rfl) (Reps.one (show Kd.M (Kd.int .i64) _ _ _ 3 [.int .i64 3] from rfl) (Reps.one (show Kd.M (Kd.int .i64) _ _ _ 3 [.int .i64 3] from rfl) (Reps.none _ _)))));intro v245 w4 ho5 hb hg_ hnew_;clear hg_ hnew_;(first|rw [← Ny244.out] at ho5|(simp only [Int.reduceToNat] at ho5;rw [← Ny244.out] at ho5));have n0_ := Aside0.mk (Kd.R_elder' (rM HO243.out) (Kd.R_base ho5) hb);have n1_ := Aside0.mk (Kd.R_lower (Kd.R_new' ho5 (Kd.R_lt (rM HO243.out))) (below_size (bM HB.out)));have n2_ := Aside0.mk (below_step (bM HB.out) hb);clear HO243;clear HB;have HO243 := n0_;have HO246 := n1_;have HB := n2_;clear n0_ n1_ n2_;clear hb ho5))
 (try simp only [Act.put,List.setIfInBounds_toArray,List.set_cons_zero,List.set_cons_succ])
 go_cut [34] (fun v34 wc => ∃ (kq : Nat) (x34_0 : Bool),v34 = .bool x34_0 ∧ Aside0 (codesearchlaw05_alive.j0 kq x34_0 = some r) ∧ Aside0 (kq ≤ k) ∧ Aside0 (Below w.heap.size w wc))
 case first =>
  have H := HC1.out
  clear HC1
  replace H := Option.bind_eq_some_iff.mp H
  obtain ⟨t247,A60,H⟩ := H
  replace H : ((codesearchref05_Same.f k t247 (([3,5] : List Int))).bind fun t253 => (if t253 = true then ((posting_Or.f k y241 y244).bind fun t254 => ((codesearchref05_Same.f k t254 (([1,3,5] : List Int))).bind fun t260 => (if t260 = true then ((posting_Minus.f y241 y244).bind fun t261 => ((codesearchref05_Same.f k t261 (([1] : List Int))).bind fun t267 => (codesearchlaw05_alive.j0 k (!t267)))) else (codesearchlaw05_alive.j0 k true)))) else (codesearchlaw05_alive.j0 k true))) = some r := H
  have A6 := Aside0.mk A60
  clear A60
  obtain ⟨y250,hy250⟩ : ∃ y_ : List Int,y_ = (([3,5] : List Int)) := ⟨_,rfl⟩
  replace H : ((codesearchref05_Same.f k t247 y250).bind fun t253 => (if t253 = true then ((posting_Or.f k y241 y244).bind fun t254 => ((codesearchref05_Same.f k t254 (([1,3,5] : List Int))).bind fun t260 => (if t260 = true then ((posting_Minus.f y241 y244).bind fun t261 => ((codesearchref05_Same.f k t261 (([1] : List Int))).bind fun t267 => (codesearchlaw05_alive.j0 k (!t267)))) else (codesearchlaw05_alive.j0 k true)))) else (codesearchlaw05_alive.j0 k true))) = some r := by first|(rw [hy250];with_reducible exact H)|(have H2_ := (Option.bind_some _ _).symm.trans H;rw [hy250];with_reducible exact H2_)|(have H2_ := (Option.bind_some _ _).symm.trans H;with_reducible exact H2_)|with_reducible exact H|(rw [hy250];exact H)|exact H
  have Ny250 := Aside0.mk hy250
  clear hy250
  replace H := Option.bind_eq_some_iff.mp H
  obtain ⟨t253,A70,H⟩ := H
  replace H : (if t253 = true then ((posting_Or.f k y241 y244).bind fun t254 => ((codesearchref05_Same.f k t254 (([1,3,5] : List Int))).bind fun t260 => (if t260 = true then ((posting_Minus.f y241 y244).bind fun t261 => ((codesearchref05_Same.f k t261 (([1] : List Int))).bind fun t267 => (codesearchlaw05_alive.j0 k (!t267)))) else (codesearchlaw05_alive.j0 k true)))) else (codesearchlaw05_alive.j0 k true)) = some r := H
  have A7 := Aside0.mk A70
  clear A70
  by_cases c8 : t253 = true
  ·subst c8
   have H1 : ((posting_Or.f k y241 y244).bind fun t254 => ((codesearchref05_Same.f k t254 (([1,3,5] : List Int))).bind fun t260 => (if t260 = true then ((posting_Minus.f y241 y244).bind fun t261 => ((codesearchref05_Same.f k t261 (([1] : List Int))).bind fun t267 => (codesearchlaw05_alive.j0 k (!t267)))) else (codesearchlaw05_alive.j0 k true)))) = some r := by rw [if_pos rfl] at H;exact H
   clear H
   have H := H1
   clear H1
   replace H := Option.bind_eq_some_iff.mp H
   obtain ⟨t254,A90,H⟩ := H
   replace H : ((codesearchref05_Same.f k t254 (([1,3,5] : List Int))).bind fun t260 => (if t260 = true then ((posting_Minus.f y241 y244).bind fun t261 => ((codesearchref05_Same.f k t261 (([1] : List Int))).bind fun t267 => (codesearchlaw05_alive.j0 k (!t267)))) else (codesearchlaw05_alive.j0 k true))) = some r := H
   have A9 := Aside0.mk A90
   clear A90
   obtain ⟨y257,hy257⟩ : ∃ y_ : List Int,y_ = (([1,3,5] : List Int)) := ⟨_,rfl⟩
   replace H : ((codesearchref05_Same.f k t254 y257).bind fun t260 => (if t260 = true then ((posting_Minus.f y241 y244).bind fun t261 => ((codesearchref05_Same.f k t261 (([1] : List Int))).bind fun t267 => (codesearchlaw05_alive.j0 k (!t267)))) else (codesearchlaw05_alive.j0 k true))) = some r := by first|(rw [hy257];with_reducible exact H)|(have H2_ := (Option.bind_some _ _).symm.trans H;rw [hy257];with_reducible exact H2_)|(have H2_ := (Option.bind_some _ _).symm.trans H;with_reducible exact H2_)|with_reducible exact H|(rw [hy257];exact H)|exact H
   have Ny257 := Aside0.mk hy257
   clear hy257
   replace H := Option.bind_eq_some_iff.mp H
   obtain ⟨t260,A100,H⟩ := H
   replace H : (if t260 = true then ((posting_Minus.f y241 y244).bind fun t261 => ((codesearchref05_Same.f k t261 (([1] : List Int))).bind fun t267 => (codesearchlaw05_alive.j0 k (!t267)))) else (codesearchlaw05_alive.j0 k true)) = some r := H
   have A10 := Aside0.mk A100
   clear A100
   by_cases c11 : t260 = true
   ·subst c11
    have H1 : ((posting_Minus.f y241 y244).bind fun t261 => ((codesearchref05_Same.f k t261 (([1] : List Int))).bind fun t267 => (codesearchlaw05_alive.j0 k (!t267)))) = some r := by rw [if_pos rfl] at H;exact H
    clear H
    have H := H1
    clear H1
    replace H := Option.bind_eq_some_iff.mp H
    obtain ⟨t261,A120,H⟩ := H
    replace H : ((codesearchref05_Same.f k t261 (([1] : List Int))).bind fun t267 => (codesearchlaw05_alive.j0 k (!t267))) = some r := H
    have A12 := Aside0.mk A120
    clear A120
    obtain ⟨y264,hy264⟩ : ∃ y_ : List Int,y_ = (([1] : List Int)) := ⟨_,rfl⟩
    replace H : ((codesearchref05_Same.f k t261 y264).bind fun t267 => (codesearchlaw05_alive.j0 k (!t267))) = some r := by first|(rw [hy264];with_reducible exact H)|(have H2_ := (Option.bind_some _ _).symm.trans H;rw [hy264];with_reducible exact H2_)|(have H2_ := (Option.bind_some _ _).symm.trans H;with_reducible exact H2_)|with_reducible exact H|(rw [hy264];exact H)|exact H
    have Ny264 := Aside0.mk hy264
    clear hy264
    replace H := Option.bind_eq_some_iff.mp H
    obtain ⟨t267,A130,H⟩ := H
    replace H : (codesearchlaw05_alive.j0 k (!t267)) = some r := H
    have A13 := Aside0.mk A130
    clear A130
    have H' := Aside0.mk H
    clear H
    obtain ⟨Ao14,co14,eo14⟩ := Kd.R_slice HO243.out
    subst eo14
    obtain ⟨Ao15,co15,eo15⟩ := Kd.R_slice HO246.out
    subst eo15
    go_wp2_with (first|((with_reducible refine gate_callee (f := 14) rfl ?_);refine goesL_ (some 15) rfl rfl Try.func14 (by kernel_rfl) rfl #[.slice Ao14 y241.length co14,.slice Ao15 y244.length co15] rfl (by (try simp only [List.map_toArray,List.map_cons,List.map_nil]);first|done|rfl|(simp only [List.length_drop,List.length_take];rfl)) ?_;(with_reducible refine (posting_And.calls _ _ y241 _ _ y244 t247 _ ?side1 ?side2 ?side3 ?side4 A6.out).mono ?_);(case side1 => exact cM (Kd.R_reads' HO243.out).2.2);(case side2 => exact (Kd.R_reads' HO243.out).2.1);(case side3 => exact cM (Kd.R_reads' HO246.out).2.2);(case side4 => exact (Kd.R_reads' HO246.out).2.1);rintro e w16 ⟨v248,rfl,ho0,hb⟩;refine ⟨_,rfl,?_⟩;have n0_ := Aside0.mk (Kd.R_elder' (rM HO243.out) (Kd.R_base ho0) hb);have n1_ := Aside0.mk (Kd.R_elder' (rM HO246.out) (Kd.R_base ho0) hb);have n2_ := Aside0.mk (Kd.R_lower (Kd.R_new' (Kd.R_new' ho0 (Kd.R_lt (rM HO243.out))) (Kd.R_lt (rM HO246.out))) (below_size (bM HB.out)));have n3_ := Aside0.mk (below_step (bM HB.out) hb);clear HO243;clear HO246;clear HB;have HO243 := n0_;have HO246 := n1_;have HO249 := n2_;have HB := n3_;clear n0_ n1_ n2_ n3_;(try clear hb);(try clear hb2);(try clear hk);(try clear hi);(try clear ho0))|((with_reducible refine gate_dst (N := 16) rfl ?_);(try (refine gate_guard (by rfl) ?_;dsimp only));refine Kd.R_lit (Kd.int .i64) _ 3 ?hg (N := 16) ?hd (xs := ([3,5] : List Int)) (inner := [.int .i64 3,.int .i64 5]) (ok := fun _ => True) (okp := fun _ => True) ?hr ?hp (fun _ hk => hk) trivial (Below.refl _ _) (Nat.le_refl _) (by simp) ?_;(case hd => rfl);(case hg => rfl);(case hr => first|(go_simp;done)|(go_simp;rfl));(case hp => exact (Reps.one (show Kd.M (Kd.int .i64) _ _ _ 3 [.int .i64 3] from rfl) (Reps.one (show Kd.M (Kd.int .i64) _ _ _ 5 [.int .i64 5] from rfl) (Reps.none _ _))));intro v251 w17 ho18 hb hg_ hnew_;clear hg_ hnew_;(first|rw [← Ny250.out] at ho18|(simp only [Int.reduceToNat] at ho18;rw [← Ny250.out] at ho18));have n0_ := Aside0.mk (Kd.R_elder' (rM HO243.out) (Kd.R_base ho18) hb);have n1_ := Aside0.mk (Kd.R_elder' (rM HO246.out) (Kd.R_base ho18) hb);have n2_ := Aside0.mk (Kd.R_elder' (rM HO249.out) (Kd.R_base ho18) hb);have n3_ := Aside0.mk (Kd.R_lower (Kd.R_new' (Kd.R_new' (Kd.R_new' ho18 (Kd.R_lt (rM HO243.out))) (Kd.R_lt (rM HO246.out))) (Kd.R_lt (rM HO249.out))) (below_size (bM HB.out)));have n4_ := Aside0.mk (below_step (bM HB.out) hb);clear HO243;clear HO246;clear HO249;clear HB;have HO243 := n0_;have HO246 := n1_;have HO249 := n2_;have HO252 := n3_;have HB := n4_;clear n0_ n1_ n2_ n3_ n4_;clear hb ho18;obtain ⟨Ao19,co19,eo19⟩ := Kd.R_slice HO249.out;subst eo19;obtain ⟨Ao20,co20,eo20⟩ := Kd.R_slice HO252.out;subst eo20)|((with_reducible refine gate_callee (f := 13) rfl ?_);refine goesL_ (some 17) rfl rfl Try.func13 (by kernel_rfl) rfl #[.slice Ao19 t247.length co19,.slice Ao20 y250.length co20] rfl (by (try simp only [List.map_toArray,List.map_cons,List.map_nil]);first|done|rfl|(simp only [List.length_drop,List.length_take];rfl)) ?_;(with_reducible refine (codesearchref05_Same.calls k _ _ t247 _ _ y250 true _ ?side1 ?side2 ?side3 ?side4 A7.out).mono ?_);(case side1 => exact cM (Kd.R_reads' HO249.out).2.2);(case side2 => exact (Kd.R_reads' HO249.out).2.1);(case side3 => exact cM (Kd.R_reads' HO252.out).2.2);(case side4 => exact (Kd.R_reads' HO252.out).2.1);rintro e w' ⟨rfl,⟨nd,rfl⟩⟩;refine ⟨_,rfl,?_⟩)|(go_at_call 16;(with_reducible refine (posting_Or.calls k (fun k_ => some k_ = (.slice Ao14 y241.length co14 : Value).ownBlock) _ _ y241 (fun k_ => some k_ = (.slice Ao15 y244.length co15 : Value).ownBlock) _ _ y244 t254 _ ?side1 ?side2 A9.out).mono ?_);(case side1 => exact Kd.R_V (Kd.R_tight rfl (HO243.out)));(case side2 => exact Kd.R_V (Kd.R_tight rfl (HO246.out)));rintro e w21 ⟨v255,rfl,ho0,hb⟩;have n0_ := Aside0.mk (Kd.R_elder' (rM HO243.out) (Kd.R_base ho0) hb);have n1_ := Aside0.mk (Kd.R_elder' (rM HO246.out) (Kd.R_base ho0) hb);have n2_ := Aside0.mk (Kd.R_elder' (rM HO249.out) (Kd.R_base ho0) hb);have n3_ := Aside0.mk (Kd.R_elder' (rM HO252.out) (Kd.R_base ho0) hb);have n4_ := Aside0.mk (Kd.R_lower (Kd.R_new' (Kd.R_new' (Kd.R_new' (Kd.R_new' (Kd.R_mono (ok' := fun k_ => True) ho0 (fun _ hk_ => trivial)) (Kd.R_lt (rM HO243.out))) (Kd.R_lt (rM HO246.out))) (Kd.R_lt (rM HO249.out))) (Kd.R_lt (rM HO252.out))) (below_size (bM HB.out)));have n5_ := Aside0.mk (below_step (bM HB.out) hb);clear HO243;clear HO246;clear HO249;clear HO252;clear HB;have HO243 := n0_;have HO246 := n1_;have HO249 := n2_;have HO252 := n3_;have HO256 := n4_;have HB := n5_;clear n0_ n1_ n2_ n3_ n4_ n5_;(try clear hb);(try clear hb2);(try clear hk);(try clear hi);(try clear ho0))|((with_reducible refine gate_dst (N := 23) rfl ?_);(try (refine gate_guard (by rfl) ?_;dsimp only));refine Kd.R_lit (Kd.int .i64) _ 3 ?hg (N := 23) ?hd (xs := ([1,3,5] : List Int)) (inner := [.int .i64 1,.int .i64 3,.int .i64 5]) (ok := fun _ => True) (okp := fun _ => True) ?hr ?hp (fun _ hk => hk) trivial (Below.refl _ _) (Nat.le_refl _) (by simp) ?_;(case hd => rfl);(case hg => rfl);(case hr => first|(go_simp;done)|(go_simp;rfl));(case hp => exact (Reps.one (show Kd.M (Kd.int .i64) _ _ _ 1 [.int .i64 1] from rfl) (Reps.one (show Kd.M (Kd.int .i64) _ _ _ 3 [.int .i64 3] from rfl) (Reps.one (show Kd.M (Kd.int .i64) _ _ _ 5 [.int .i64 5] from rfl) (Reps.none _ _)))));intro v258 w22 ho23 hb hg_ hnew_;clear hg_ hnew_;(first|rw [← Ny257.out] at ho23|(simp only [Int.reduceToNat] at ho23;rw [← Ny257.out] at ho23));have n0_ := Aside0.mk (Kd.R_elder' (rM HO243.out) (Kd.R_base ho23) hb);have n1_ := Aside0.mk (Kd.R_elder' (rM HO246.out) (Kd.R_base ho23) hb);have n2_ := Aside0.mk (Kd.R_elder' (rM HO249.out) (Kd.R_base ho23) hb);have n3_ := Aside0.mk (Kd.R_elder' (rM HO252.out) (Kd.R_base ho23) hb);have n4_ := Aside0.mk (Kd.R_elder' (rM HO256.out) (Kd.R_base ho23) hb);have n5_ := Aside0.mk (Kd.R_lower (Kd.R_new' (Kd.R_new' (Kd.R_new' (Kd.R_new' (Kd.R_new' ho23 (Kd.R_lt (rM HO243.out))) (Kd.R_lt (rM HO246.out))) (Kd.R_lt (rM HO249.out))) (Kd.R_lt (rM HO252.out))) (Kd.R_lt (rM HO256.out))) (below_size (bM HB.out)));have n6_ := Aside0.mk (below_step (bM HB.out) hb);clear HO243;clear HO246;clear HO249;clear HO252;clear HO256;clear HB;have HO243 := n0_;have HO246 := n1_;have HO249 := n2_;have HO252 := n3_;have HO256 := n4_;have HO259 := n5_;have HB := n6_;clear n0_ n1_ n2_ n3_ n4_ n5_ n6_;clear hb ho23;obtain ⟨Ao24,co24,eo24⟩ := Kd.R_slice HO256.out;subst eo24;obtain ⟨Ao25,co25,eo25⟩ := Kd.R_slice HO259.out;subst eo25)|(go_at_call 13;(with_reducible refine (codesearchref05_Same.calls k _ _ t254 _ _ y257 true _ ?side1 ?side2 ?side3 ?side4 A10.out).mono ?_);(case side1 => exact cM (Kd.R_reads' HO256.out).2.2);(case side2 => exact (Kd.R_reads' HO256.out).2.1);(case side3 => exact cM (Kd.R_reads' HO259.out).2.2);(case side4 => exact (Kd.R_reads' HO259.out).2.1);rintro e w' ⟨rfl,⟨nd,rfl⟩⟩)|(go_at_call 18;(with_reducible refine (posting_Minus.calls _ _ y241 _ _ y244 t261 _ ?side1 ?side2 ?side3 ?side4 A12.out).mono ?_);(case side1 => exact cM (Kd.R_reads' HO243.out).2.2);(case side2 => exact (Kd.R_reads' HO243.out).2.1);(case side3 => exact cM (Kd.R_reads' HO246.out).2.2);(case side4 => exact (Kd.R_reads' HO246.out).2.1);rintro e w26 ⟨v262,rfl,ho0,hb⟩;have n0_ := Aside0.mk (Kd.R_elder' (rM HO243.out) (Kd.R_base ho0) hb);have n1_ := Aside0.mk (Kd.R_elder' (rM HO246.out) (Kd.R_base ho0) hb);have n2_ := Aside0.mk (Kd.R_elder' (rM HO249.out) (Kd.R_base ho0) hb);have n3_ := Aside0.mk (Kd.R_elder' (rM HO252.out) (Kd.R_base ho0) hb);have n4_ := Aside0.mk (Kd.R_elder' (rM HO256.out) (Kd.R_base ho0) hb);have n5_ := Aside0.mk (Kd.R_elder' (rM HO259.out) (Kd.R_base ho0) hb);have n6_ := Aside0.mk (Kd.R_lower (Kd.R_new' (Kd.R_new' (Kd.R_new' (Kd.R_new' (Kd.R_new' (Kd.R_new' ho0 (Kd.R_lt (rM HO243.out))) (Kd.R_lt (rM HO246.out))) (Kd.R_lt (rM HO249.out))) (Kd.R_lt (rM HO252.out))) (Kd.R_lt (rM HO256.out))) (Kd.R_lt (rM HO259.out))) (below_size (bM HB.out)));have n7_ := Aside0.mk (below_step (bM HB.out) hb);clear HO243;clear HO246;clear HO249;clear HO252;clear HO256;clear HO259;clear HB;have HO243 := n0_;have HO246 := n1_;have HO249 := n2_;have HO252 := n3_;have HO256 := n4_;have HO259 := n5_;have HO263 := n6_;have HB := n7_;clear n0_ n1_ n2_ n3_ n4_ n5_ n6_ n7_;(try clear hb);(try clear hb2);(try clear hk);(try clear hi);(try clear ho0))|((with_reducible refine gate_dst (N := 31) rfl ?_);(try (refine gate_guard (by rfl) ?_;dsimp only));refine Kd.R_lit (Kd.int .i64) _ 3 ?hg (N := 31) ?hd (xs := ([1] : List Int)) (inner := [.int .i64 1]) (ok := fun _ => True) (okp := fun _ => True) ?hr ?hp (fun _ hk => hk) trivial (Below.refl _ _) (Nat.le_refl _) (by simp) ?_;(case hd => rfl);(case hg => rfl);(case hr => first|(go_simp;done)|(go_simp;rfl));(case hp => exact (Reps.one (show Kd.M (Kd.int .i64) _ _ _ 1 [.int .i64 1] from rfl) (Reps.none _ _)));intro v265 w27 ho28 hb hg_ hnew_;clear hg_ hnew_;(first|rw [← Ny264.out] at ho28|(simp only [Int.reduceToNat] at ho28;rw [← Ny264.out] at ho28));have n0_ := Aside0.mk (Kd.R_elder' (rM HO243.out) (Kd.R_base ho28) hb);have n1_ := Aside0.mk (Kd.R_elder' (rM HO246.out) (Kd.R_base ho28) hb);have n2_ := Aside0.mk (Kd.R_elder' (rM HO249.out) (Kd.R_base ho28) hb);have n3_ := Aside0.mk (Kd.R_elder' (rM HO252.out) (Kd.R_base ho28) hb);have n4_ := Aside0.mk (Kd.R_elder' (rM HO256.out) (Kd.R_base ho28) hb);have n5_ := Aside0.mk (Kd.R_elder' (rM HO259.out) (Kd.R_base ho28) hb);have n6_ := Aside0.mk (Kd.R_elder' (rM HO263.out) (Kd.R_base ho28) hb);have n7_ := Aside0.mk (Kd.R_lower (Kd.R_new' (Kd.R_new' (Kd.R_new' (Kd.R_new' (Kd.R_new' (Kd.R_new' (Kd.R_new' ho28 (Kd.R_lt (rM HO243.out))) (Kd.R_lt (rM HO246.out))) (Kd.R_lt (rM HO249.out))) (Kd.R_lt (rM HO252.out))) (Kd.R_lt (rM HO256.out))) (Kd.R_lt (rM HO259.out))) (Kd.R_lt (rM HO263.out))) (below_size (bM HB.out)));have n8_ := Aside0.mk (below_step (bM HB.out) hb);clear HO243;clear HO246;clear HO249;clear HO252;clear HO256;clear HO259;clear HO263;clear HB;have HO243 := n0_;have HO246 := n1_;have HO249 := n2_;have HO252 := n3_;have HO256 := n4_;have HO259 := n5_;have HO263 := n6_;have HO266 := n7_;have HB := n8_;clear n0_ n1_ n2_ n3_ n4_ n5_ n6_ n7_ n8_;clear hb ho28;obtain ⟨Ao29,co29,eo29⟩ := Kd.R_slice HO263.out;subst eo29;obtain ⟨Ao30,co30,eo30⟩ := Kd.R_slice HO266.out;subst eo30)|(go_at_call 13;(with_reducible refine (codesearchref05_Same.calls k _ _ t261 _ _ y264 t267 _ ?side1 ?side2 ?side3 ?side4 A13.out).mono ?_);(case side1 => exact cM (Kd.R_reads' HO263.out).2.2);(case side2 => exact (Kd.R_reads' HO263.out).2.1);(case side3 => exact cM (Kd.R_reads' HO266.out).2.2);(case side4 => exact (Kd.R_reads' HO266.out).2.1);rintro e w' ⟨rfl,⟨nd,rfl⟩⟩))
    go_meet
    case rel => exact ⟨_,(!t267),(by first|rfl|(simp;done)|(simp [*];done)),H',⟨by first|omega|exact Nat.le_refl _⟩,⟨bM HB.out⟩⟩
   ·replace c11 := Bool.eq_false_iff.mpr c11
    subst c11
    have H1 : (codesearchlaw05_alive.j0 k true) = some r := by rw [if_neg (show ¬ (false = true) by decide)] at H;exact H
    clear H
    have H := H1
    clear H1
    have H' := Aside0.mk H
    clear H
    obtain ⟨Ao31,co31,eo31⟩ := Kd.R_slice HO243.out
    subst eo31
    obtain ⟨Ao32,co32,eo32⟩ := Kd.R_slice HO246.out
    subst eo32
    go_wp2_with (first|((with_reducible refine gate_callee (f := 14) rfl ?_);refine goesL_ (some 15) rfl rfl Try.func14 (by kernel_rfl) rfl #[.slice Ao31 y241.length co31,.slice Ao32 y244.length co32] rfl (by (try simp only [List.map_toArray,List.map_cons,List.map_nil]);first|done|rfl|(simp only [List.length_drop,List.length_take];rfl)) ?_;(with_reducible refine (posting_And.calls _ _ y241 _ _ y244 t247 _ ?side1 ?side2 ?side3 ?side4 A6.out).mono ?_);(case side1 => exact cM (Kd.R_reads' HO243.out).2.2);(case side2 => exact (Kd.R_reads' HO243.out).2.1);(case side3 => exact cM (Kd.R_reads' HO246.out).2.2);(case side4 => exact (Kd.R_reads' HO246.out).2.1);rintro e w33 ⟨v248,rfl,ho0,hb⟩;refine ⟨_,rfl,?_⟩;have n0_ := Aside0.mk (Kd.R_elder' (rM HO243.out) (Kd.R_base ho0) hb);have n1_ := Aside0.mk (Kd.R_elder' (rM HO246.out) (Kd.R_base ho0) hb);have n2_ := Aside0.mk (Kd.R_lower (Kd.R_new' (Kd.R_new' ho0 (Kd.R_lt (rM HO243.out))) (Kd.R_lt (rM HO246.out))) (below_size (bM HB.out)));have n3_ := Aside0.mk (below_step (bM HB.out) hb);clear HO243;clear HO246;clear HB;have HO243 := n0_;have HO246 := n1_;have HO249 := n2_;have HB := n3_;clear n0_ n1_ n2_ n3_;(try clear hb);(try clear hb2);(try clear hk);(try clear hi);(try clear ho0))|((with_reducible refine gate_dst (N := 16) rfl ?_);(try (refine gate_guard (by rfl) ?_;dsimp only));refine Kd.R_lit (Kd.int .i64) _ 3 ?hg (N := 16) ?hd (xs := ([3,5] : List Int)) (inner := [.int .i64 3,.int .i64 5]) (ok := fun _ => True) (okp := fun _ => True) ?hr ?hp (fun _ hk => hk) trivial (Below.refl _ _) (Nat.le_refl _) (by simp) ?_;(case hd => rfl);(case hg => rfl);(case hr => first|(go_simp;done)|(go_simp;rfl));(case hp => exact (Reps.one (show Kd.M (Kd.int .i64) _ _ _ 3 [.int .i64 3] from rfl) (Reps.one (show Kd.M (Kd.int .i64) _ _ _ 5 [.int .i64 5] from rfl) (Reps.none _ _))));intro v251 w34 ho35 hb hg_ hnew_;clear hg_ hnew_;(first|rw [← Ny250.out] at ho35|(simp only [Int.reduceToNat] at ho35;rw [← Ny250.out] at ho35));have n0_ := Aside0.mk (Kd.R_elder' (rM HO243.out) (Kd.R_base ho35) hb);have n1_ := Aside0.mk (Kd.R_elder' (rM HO246.out) (Kd.R_base ho35) hb);have n2_ := Aside0.mk (Kd.R_elder' (rM HO249.out) (Kd.R_base ho35) hb);have n3_ := Aside0.mk (Kd.R_lower (Kd.R_new' (Kd.R_new' (Kd.R_new' ho35 (Kd.R_lt (rM HO243.out))) (Kd.R_lt (rM HO246.out))) (Kd.R_lt (rM HO249.out))) (below_size (bM HB.out)));have n4_ := Aside0.mk (below_step (bM HB.out) hb);clear HO243;clear HO246;clear HO249;clear HB;have HO243 := n0_;have HO246 := n1_;have HO249 := n2_;have HO252 := n3_;have HB := n4_;clear n0_ n1_ n2_ n3_ n4_;clear hb ho35;obtain ⟨Ao36,co36,eo36⟩ := Kd.R_slice HO249.out;subst eo36;obtain ⟨Ao37,co37,eo37⟩ := Kd.R_slice HO252.out;subst eo37)|((with_reducible refine gate_callee (f := 13) rfl ?_);refine goesL_ (some 17) rfl rfl Try.func13 (by kernel_rfl) rfl #[.slice Ao36 t247.length co36,.slice Ao37 y250.length co37] rfl (by (try simp only [List.map_toArray,List.map_cons,List.map_nil]);first|done|rfl|(simp only [List.length_drop,List.length_take];rfl)) ?_;(with_reducible refine (codesearchref05_Same.calls k _ _ t247 _ _ y250 true _ ?side1 ?side2 ?side3 ?side4 A7.out).mono ?_);(case side1 => exact cM (Kd.R_reads' HO249.out).2.2);(case side2 => exact (Kd.R_reads' HO249.out).2.1);(case side3 => exact cM (Kd.R_reads' HO252.out).2.2);(case side4 => exact (Kd.R_reads' HO252.out).2.1);rintro e w' ⟨rfl,⟨nd,rfl⟩⟩;refine ⟨_,rfl,?_⟩)|(go_at_call 16;(with_reducible refine (posting_Or.calls k (fun k_ => some k_ = (.slice Ao31 y241.length co31 : Value).ownBlock) _ _ y241 (fun k_ => some k_ = (.slice Ao32 y244.length co32 : Value).ownBlock) _ _ y244 t254 _ ?side1 ?side2 A9.out).mono ?_);(case side1 => exact Kd.R_V (Kd.R_tight rfl (HO243.out)));(case side2 => exact Kd.R_V (Kd.R_tight rfl (HO246.out)));rintro e w38 ⟨v255,rfl,ho0,hb⟩;have n0_ := Aside0.mk (Kd.R_elder' (rM HO243.out) (Kd.R_base ho0) hb);have n1_ := Aside0.mk (Kd.R_elder' (rM HO246.out) (Kd.R_base ho0) hb);have n2_ := Aside0.mk (Kd.R_elder' (rM HO249.out) (Kd.R_base ho0) hb);have n3_ := Aside0.mk (Kd.R_elder' (rM HO252.out) (Kd.R_base ho0) hb);have n4_ := Aside0.mk (Kd.R_lower (Kd.R_new' (Kd.R_new' (Kd.R_new' (Kd.R_new' (Kd.R_mono (ok' := fun k_ => True) ho0 (fun _ hk_ => trivial)) (Kd.R_lt (rM HO243.out))) (Kd.R_lt (rM HO246.out))) (Kd.R_lt (rM HO249.out))) (Kd.R_lt (rM HO252.out))) (below_size (bM HB.out)));have n5_ := Aside0.mk (below_step (bM HB.out) hb);clear HO243;clear HO246;clear HO249;clear HO252;clear HB;have HO243 := n0_;have HO246 := n1_;have HO249 := n2_;have HO252 := n3_;have HO256 := n4_;have HB := n5_;clear n0_ n1_ n2_ n3_ n4_ n5_;(try clear hb);(try clear hb2);(try clear hk);(try clear hi);(try clear ho0))|((with_reducible refine gate_dst (N := 23) rfl ?_);(try (refine gate_guard (by rfl) ?_;dsimp only));refine Kd.R_lit (Kd.int .i64) _ 3 ?hg (N := 23) ?hd (xs := ([1,3,5] : List Int)) (inner := [.int .i64 1,.int .i64 3,.int .i64 5]) (ok := fun _ => True) (okp := fun _ => True) ?hr ?hp (fun _ hk => hk) trivial (Below.refl _ _) (Nat.le_refl _) (by simp) ?_;(case hd => rfl);(case hg => rfl);(case hr => first|(go_simp;done)|(go_simp;rfl));(case hp => exact (Reps.one (show Kd.M (Kd.int .i64) _ _ _ 1 [.int .i64 1] from rfl) (Reps.one (show Kd.M (Kd.int .i64) _ _ _ 3 [.int .i64 3] from rfl) (Reps.one (show Kd.M (Kd.int .i64) _ _ _ 5 [.int .i64 5] from rfl) (Reps.none _ _)))));intro v258 w39 ho40 hb hg_ hnew_;clear hg_ hnew_;(first|rw [← Ny257.out] at ho40|(simp only [Int.reduceToNat] at ho40;rw [← Ny257.out] at ho40));have n0_ := Aside0.mk (Kd.R_elder' (rM HO243.out) (Kd.R_base ho40) hb);have n1_ := Aside0.mk (Kd.R_elder' (rM HO246.out) (Kd.R_base ho40) hb);have n2_ := Aside0.mk (Kd.R_elder' (rM HO249.out) (Kd.R_base ho40) hb);have n3_ := Aside0.mk (Kd.R_elder' (rM HO252.out) (Kd.R_base ho40) hb);have n4_ := Aside0.mk (Kd.R_elder' (rM HO256.out) (Kd.R_base ho40) hb);have n5_ := Aside0.mk (Kd.R_lower (Kd.R_new' (Kd.R_new' (Kd.R_new' (Kd.R_new' (Kd.R_new' ho40 (Kd.R_lt (rM HO243.out))) (Kd.R_lt (rM HO246.out))) (Kd.R_lt (rM HO249.out))) (Kd.R_lt (rM HO252.out))) (Kd.R_lt (rM HO256.out))) (below_size (bM HB.out)));have n6_ := Aside0.mk (below_step (bM HB.out) hb);clear HO243;clear HO246;clear HO249;clear HO252;clear HO256;clear HB;have HO243 := n0_;have HO246 := n1_;have HO249 := n2_;have HO252 := n3_;have HO256 := n4_;have HO259 := n5_;have HB := n6_;clear n0_ n1_ n2_ n3_ n4_ n5_ n6_;clear hb ho40;obtain ⟨Ao41,co41,eo41⟩ := Kd.R_slice HO256.out;subst eo41;obtain ⟨Ao42,co42,eo42⟩ := Kd.R_slice HO259.out;subst eo42)|(go_at_call 13;(with_reducible refine (codesearchref05_Same.calls k _ _ t254 _ _ y257 false _ ?side1 ?side2 ?side3 ?side4 A10.out).mono ?_);(case side1 => exact cM (Kd.R_reads' HO256.out).2.2);(case side2 => exact (Kd.R_reads' HO256.out).2.1);(case side3 => exact cM (Kd.R_reads' HO259.out).2.2);(case side4 => exact (Kd.R_reads' HO259.out).2.1);rintro e w' ⟨rfl,⟨nd,rfl⟩⟩))
    go_meet
    case rel => exact ⟨_,(true),(by first|rfl|(simp;done)|(simp [*];done)),H',⟨by first|omega|exact Nat.le_refl _⟩,⟨bM HB.out⟩⟩
  ·replace c8 := Bool.eq_false_iff.mpr c8
   subst c8
   have H1 : (codesearchlaw05_alive.j0 k true) = some r := by rw [if_neg (show ¬ (false = true) by decide)] at H;exact H
   clear H
   have H := H1
   clear H1
   have H' := Aside0.mk H
   clear H
   obtain ⟨Ao43,co43,eo43⟩ := Kd.R_slice HO243.out
   subst eo43
   obtain ⟨Ao44,co44,eo44⟩ := Kd.R_slice HO246.out
   subst eo44
   go_wp2_with (first|((with_reducible refine gate_callee (f := 14) rfl ?_);refine goesL_ (some 15) rfl rfl Try.func14 (by kernel_rfl) rfl #[.slice Ao43 y241.length co43,.slice Ao44 y244.length co44] rfl (by (try simp only [List.map_toArray,List.map_cons,List.map_nil]);first|done|rfl|(simp only [List.length_drop,List.length_take];rfl)) ?_;(with_reducible refine (posting_And.calls _ _ y241 _ _ y244 t247 _ ?side1 ?side2 ?side3 ?side4 A6.out).mono ?_);(case side1 => exact cM (Kd.R_reads' HO243.out).2.2);(case side2 => exact (Kd.R_reads' HO243.out).2.1);(case side3 => exact cM (Kd.R_reads' HO246.out).2.2);(case side4 => exact (Kd.R_reads' HO246.out).2.1);rintro e w45 ⟨v248,rfl,ho0,hb⟩;refine ⟨_,rfl,?_⟩;have n0_ := Aside0.mk (Kd.R_elder' (rM HO243.out) (Kd.R_base ho0) hb);have n1_ := Aside0.mk (Kd.R_elder' (rM HO246.out) (Kd.R_base ho0) hb);have n2_ := Aside0.mk (Kd.R_lower (Kd.R_new' (Kd.R_new' ho0 (Kd.R_lt (rM HO243.out))) (Kd.R_lt (rM HO246.out))) (below_size (bM HB.out)));have n3_ := Aside0.mk (below_step (bM HB.out) hb);clear HO243;clear HO246;clear HB;have HO243 := n0_;have HO246 := n1_;have HO249 := n2_;have HB := n3_;clear n0_ n1_ n2_ n3_;(try clear hb);(try clear hb2);(try clear hk);(try clear hi);(try clear ho0))|((with_reducible refine gate_dst (N := 16) rfl ?_);(try (refine gate_guard (by rfl) ?_;dsimp only));refine Kd.R_lit (Kd.int .i64) _ 3 ?hg (N := 16) ?hd (xs := ([3,5] : List Int)) (inner := [.int .i64 3,.int .i64 5]) (ok := fun _ => True) (okp := fun _ => True) ?hr ?hp (fun _ hk => hk) trivial (Below.refl _ _) (Nat.le_refl _) (by simp) ?_;(case hd => rfl);(case hg => rfl);(case hr => first|(go_simp;done)|(go_simp;rfl));(case hp => exact (Reps.one (show Kd.M (Kd.int .i64) _ _ _ 3 [.int .i64 3] from rfl) (Reps.one (show Kd.M (Kd.int .i64) _ _ _ 5 [.int .i64 5] from rfl) (Reps.none _ _))));intro v251 w46 ho47 hb hg_ hnew_;clear hg_ hnew_;(first|rw [← Ny250.out] at ho47|(simp only [Int.reduceToNat] at ho47;rw [← Ny250.out] at ho47));have n0_ := Aside0.mk (Kd.R_elder' (rM HO243.out) (Kd.R_base ho47) hb);have n1_ := Aside0.mk (Kd.R_elder' (rM HO246.out) (Kd.R_base ho47) hb);have n2_ := Aside0.mk (Kd.R_elder' (rM HO249.out) (Kd.R_base ho47) hb);have n3_ := Aside0.mk (Kd.R_lower (Kd.R_new' (Kd.R_new' (Kd.R_new' ho47 (Kd.R_lt (rM HO243.out))) (Kd.R_lt (rM HO246.out))) (Kd.R_lt (rM HO249.out))) (below_size (bM HB.out)));have n4_ := Aside0.mk (below_step (bM HB.out) hb);clear HO243;clear HO246;clear HO249;clear HB;have HO243 := n0_;have HO246 := n1_;have HO249 := n2_;have HO252 := n3_;have HB := n4_;clear n0_ n1_ n2_ n3_ n4_;clear hb ho47;obtain ⟨Ao48,co48,eo48⟩ := Kd.R_slice HO249.out;subst eo48;obtain ⟨Ao49,co49,eo49⟩ := Kd.R_slice HO252.out;subst eo49)|((with_reducible refine gate_callee (f := 13) rfl ?_);refine goesL_ (some 17) rfl rfl Try.func13 (by kernel_rfl) rfl #[.slice Ao48 t247.length co48,.slice Ao49 y250.length co49] rfl (by (try simp only [List.map_toArray,List.map_cons,List.map_nil]);first|done|rfl|(simp only [List.length_drop,List.length_take];rfl)) ?_;(with_reducible refine (codesearchref05_Same.calls k _ _ t247 _ _ y250 false _ ?side1 ?side2 ?side3 ?side4 A7.out).mono ?_);(case side1 => exact cM (Kd.R_reads' HO249.out).2.2);(case side2 => exact (Kd.R_reads' HO249.out).2.1);(case side3 => exact cM (Kd.R_reads' HO252.out).2.2);(case side4 => exact (Kd.R_reads' HO252.out).2.1);rintro e w' ⟨rfl,⟨nd,rfl⟩⟩;refine ⟨_,rfl,?_⟩))
   go_meet
   case rel => exact ⟨_,(true),(by first|rfl|(simp;done)|(simp [*];done)),H',⟨by first|omega|exact Nat.le_refl _⟩,⟨bM HB.out⟩⟩
 case rest =>
  clear HC1
  try clear c1
  try clear p2
  try clear c8
  try clear c10
  try clear c11
  try clear c13
  try clear c14
  obtain ⟨kq,x34_0,rfl,HA,HJ0,HB⟩ := hcut
  cases kq with
 |zero => exact absurd HA.out (by simp [codesearchlaw05_alive.j0])
 |succ kj0 =>
   have H := HA.out
   clear HA
   simp only [codesearchlaw05_alive.j0] at H
   by_cases c50 : x34_0 = true
   ·subst c50
    have H1 : (some false) = some r := by rw [if_pos rfl] at H;exact H
    clear H
    have H := H1
    clear H1
    obtain rfl := Option.some.inj H
    go_wp2
    go_ret
    exact ⟨by first|rfl|(simp [errW_none,errW_some] <;> rfl)|(simp [*,errW_none,errW_some] <;> rfl),bM HB.out⟩
   ·replace c50 := Bool.eq_false_iff.mpr c50
    subst c50
    have H1 : ((posting_AtLeast.f kj0 2 (([(([1,2] : List Int)),(([2,2] : List Int)),(([1] : List Int))] : List (List Int)))).bind fun t280 => ((codesearchref05_Same.f kj0 t280 (([1,2] : List Int))).bind fun t286 => (if t286 = true then ((posting_Pack.f kj0 (([5,300] : List Int))).bind fun bt290 => (if bt290.2 = 0 then ((codesearchlaw05_sameBytes.f bt290.1 (([2,172,2,4,2,5,167,2] : List Int))).bind fun t297 => (codesearchlaw05_alive.j1 kj0 bt290.1 (!t297))) else (codesearchlaw05_alive.j1 kj0 bt290.1 true))) else (some false)))) = some r := by rw [if_neg (show ¬ (false = true) by decide)] at H;exact H
    clear H
    have H := H1
    clear H1
    obtain ⟨y268,hy268⟩ : ∃ y_ : List Int,y_ = (([1,2] : List Int)) := ⟨_,rfl⟩
    replace H : ((posting_AtLeast.f kj0 2 (([y268,(([2,2] : List Int)),(([1] : List Int))] : List (List Int)))).bind fun t280 => ((codesearchref05_Same.f kj0 t280 (([1,2] : List Int))).bind fun t286 => (if t286 = true then ((posting_Pack.f kj0 (([5,300] : List Int))).bind fun bt290 => (if bt290.2 = 0 then ((codesearchlaw05_sameBytes.f bt290.1 (([2,172,2,4,2,5,167,2] : List Int))).bind fun t297 => (codesearchlaw05_alive.j1 kj0 bt290.1 (!t297))) else (codesearchlaw05_alive.j1 kj0 bt290.1 true))) else (some false)))) = some r := by first|(rw [hy268];with_reducible exact H)|(have H2_ := (Option.bind_some _ _).symm.trans H;rw [hy268];with_reducible exact H2_)|(have H2_ := (Option.bind_some _ _).symm.trans H;with_reducible exact H2_)|with_reducible exact H|(rw [hy268];exact H)|exact H
    have Ny268 := Aside0.mk hy268
    clear hy268
    obtain ⟨y271,hy271⟩ : ∃ y_ : List Int,y_ = (([2,2] : List Int)) := ⟨_,rfl⟩
    replace H : ((posting_AtLeast.f kj0 2 (([y268,y271,(([1] : List Int))] : List (List Int)))).bind fun t280 => ((codesearchref05_Same.f kj0 t280 (([1,2] : List Int))).bind fun t286 => (if t286 = true then ((posting_Pack.f kj0 (([5,300] : List Int))).bind fun bt290 => (if bt290.2 = 0 then ((codesearchlaw05_sameBytes.f bt290.1 (([2,172,2,4,2,5,167,2] : List Int))).bind fun t297 => (codesearchlaw05_alive.j1 kj0 bt290.1 (!t297))) else (codesearchlaw05_alive.j1 kj0 bt290.1 true))) else (some false)))) = some r := by first|(rw [hy271];with_reducible exact H)|(have H2_ := (Option.bind_some _ _).symm.trans H;rw [hy271];with_reducible exact H2_)|(have H2_ := (Option.bind_some _ _).symm.trans H;with_reducible exact H2_)|with_reducible exact H|(rw [hy271];exact H)|exact H
    have Ny271 := Aside0.mk hy271
    clear hy271
    obtain ⟨y274,hy274⟩ : ∃ y_ : List Int,y_ = (([1] : List Int)) := ⟨_,rfl⟩
    replace H : ((posting_AtLeast.f kj0 2 (([y268,y271,y274] : List (List Int)))).bind fun t280 => ((codesearchref05_Same.f kj0 t280 (([1,2] : List Int))).bind fun t286 => (if t286 = true then ((posting_Pack.f kj0 (([5,300] : List Int))).bind fun bt290 => (if bt290.2 = 0 then ((codesearchlaw05_sameBytes.f bt290.1 (([2,172,2,4,2,5,167,2] : List Int))).bind fun t297 => (codesearchlaw05_alive.j1 kj0 bt290.1 (!t297))) else (codesearchlaw05_alive.j1 kj0 bt290.1 true))) else (some false)))) = some r := by first|(rw [hy274];with_reducible exact H)|(have H2_ := (Option.bind_some _ _).symm.trans H;rw [hy274];with_reducible exact H2_)|(have H2_ := (Option.bind_some _ _).symm.trans H;with_reducible exact H2_)|with_reducible exact H|(rw [hy274];exact H)|exact H
    have Ny274 := Aside0.mk hy274
    clear hy274
    obtain ⟨y277,hy277⟩ : ∃ y_ : List (List Int),y_ = (([y268,y271,y274] : List (List Int))) := ⟨_,rfl⟩
    replace H : ((posting_AtLeast.f kj0 2 y277).bind fun t280 => ((codesearchref05_Same.f kj0 t280 (([1,2] : List Int))).bind fun t286 => (if t286 = true then ((posting_Pack.f kj0 (([5,300] : List Int))).bind fun bt290 => (if bt290.2 = 0 then ((codesearchlaw05_sameBytes.f bt290.1 (([2,172,2,4,2,5,167,2] : List Int))).bind fun t297 => (codesearchlaw05_alive.j1 kj0 bt290.1 (!t297))) else (codesearchlaw05_alive.j1 kj0 bt290.1 true))) else (some false)))) = some r := by first|(rw [hy277];with_reducible exact H)|(have H2_ := (Option.bind_some _ _).symm.trans H;rw [hy277];with_reducible exact H2_)|(have H2_ := (Option.bind_some _ _).symm.trans H;with_reducible exact H2_)|with_reducible exact H|(rw [hy277];exact H)|exact H
    have Ny277 := Aside0.mk hy277
    clear hy277
    replace H := Option.bind_eq_some_iff.mp H
    obtain ⟨t280,A510,H⟩ := H
    replace H : ((codesearchref05_Same.f kj0 t280 (([1,2] : List Int))).bind fun t286 => (if t286 = true then ((posting_Pack.f kj0 (([5,300] : List Int))).bind fun bt290 => (if bt290.2 = 0 then ((codesearchlaw05_sameBytes.f bt290.1 (([2,172,2,4,2,5,167,2] : List Int))).bind fun t297 => (codesearchlaw05_alive.j1 kj0 bt290.1 (!t297))) else (codesearchlaw05_alive.j1 kj0 bt290.1 true))) else (some false))) = some r := H
    have A51 := Aside0.mk A510
    clear A510
    obtain ⟨y283,hy283⟩ : ∃ y_ : List Int,y_ = (([1,2] : List Int)) := ⟨_,rfl⟩
    replace H : ((codesearchref05_Same.f kj0 t280 y283).bind fun t286 => (if t286 = true then ((posting_Pack.f kj0 (([5,300] : List Int))).bind fun bt290 => (if bt290.2 = 0 then ((codesearchlaw05_sameBytes.f bt290.1 (([2,172,2,4,2,5,167,2] : List Int))).bind fun t297 => (codesearchlaw05_alive.j1 kj0 bt290.1 (!t297))) else (codesearchlaw05_alive.j1 kj0 bt290.1 true))) else (some false))) = some r := by first|(rw [hy283];with_reducible exact H)|(have H2_ := (Option.bind_some _ _).symm.trans H;rw [hy283];with_reducible exact H2_)|(have H2_ := (Option.bind_some _ _).symm.trans H;with_reducible exact H2_)|with_reducible exact H|(rw [hy283];exact H)|exact H
    have Ny283 := Aside0.mk hy283
    clear hy283
    replace H := Option.bind_eq_some_iff.mp H
    obtain ⟨t286,A520,H⟩ := H
    replace H : (if t286 = true then ((posting_Pack.f kj0 (([5,300] : List Int))).bind fun bt290 => (if bt290.2 = 0 then ((codesearchlaw05_sameBytes.f bt290.1 (([2,172,2,4,2,5,167,2] : List Int))).bind fun t297 => (codesearchlaw05_alive.j1 kj0 bt290.1 (!t297))) else (codesearchlaw05_alive.j1 kj0 bt290.1 true))) else (some false)) = some r := H
    have A52 := Aside0.mk A520
    clear A520
    by_cases c53 : t286 = true
    ·subst c53
     have H1 : ((posting_Pack.f kj0 (([5,300] : List Int))).bind fun bt290 => (if bt290.2 = 0 then ((codesearchlaw05_sameBytes.f bt290.1 (([2,172,2,4,2,5,167,2] : List Int))).bind fun t297 => (codesearchlaw05_alive.j1 kj0 bt290.1 (!t297))) else (codesearchlaw05_alive.j1 kj0 bt290.1 true))) = some r := by rw [if_pos rfl] at H;exact H
     clear H
     have H := H1
     clear H1
     obtain ⟨y287,hy287⟩ : ∃ y_ : List Int,y_ = (([5,300] : List Int)) := ⟨_,rfl⟩
     replace H : ((posting_Pack.f kj0 y287).bind fun bt290 => (if bt290.2 = 0 then ((codesearchlaw05_sameBytes.f bt290.1 (([2,172,2,4,2,5,167,2] : List Int))).bind fun t297 => (codesearchlaw05_alive.j1 kj0 bt290.1 (!t297))) else (codesearchlaw05_alive.j1 kj0 bt290.1 true))) = some r := by first|(rw [hy287];with_reducible exact H)|(have H2_ := (Option.bind_some _ _).symm.trans H;rw [hy287];with_reducible exact H2_)|(have H2_ := (Option.bind_some _ _).symm.trans H;with_reducible exact H2_)|with_reducible exact H|(rw [hy287];exact H)|exact H
     have Ny287 := Aside0.mk hy287
     clear hy287
     replace H := Option.bind_eq_some_iff.mp H
     obtain ⟨⟨t290,t293⟩,A540,H⟩ := H
     replace H : (if t293 = 0 then ((codesearchlaw05_sameBytes.f t290 (([2,172,2,4,2,5,167,2] : List Int))).bind fun t297 => (codesearchlaw05_alive.j1 kj0 t290 (!t297))) else (codesearchlaw05_alive.j1 kj0 t290 true)) = some r := H
     have A54 := Aside0.mk A540
     clear A540
     have HC55 := Aside0.mk H
     clear H
     go_upto_region 7 with (first|((with_reducible refine gate_dst (N := 35) rfl ?_);(try (refine gate_guard (by rfl) ?_;dsimp only));refine Kd.R_lit (Kd.int .i64) _ 3 ?hg (N := 35) ?hd (xs := ([1,2] : List Int)) (inner := [.int .i64 1,.int .i64 2]) (ok := fun _ => True) (okp := fun _ => True) ?hr ?hp (fun _ hk => hk) trivial (Below.refl _ _) (Nat.le_refl _) (by simp) ?_;(case hd => rfl);(case hg => rfl);(case hr => first|(go_simp;done)|(go_simp;rfl));(case hp => exact (Reps.one (show Kd.M (Kd.int .i64) _ _ _ 1 [.int .i64 1] from rfl) (Reps.one (show Kd.M (Kd.int .i64) _ _ _ 2 [.int .i64 2] from rfl) (Reps.none _ _))));intro v269 w56 ho57 hb hg_ hnew_;clear hg_ hnew_;(first|rw [← Ny268.out] at ho57|(simp only [Int.reduceToNat] at ho57;rw [← Ny268.out] at ho57));have n0_ := Aside0.mk (Kd.R_lower ho57 (below_size (bM HB.out)));have n1_ := Aside0.mk (below_step (bM HB.out) hb);clear HB;have HO270 := n0_;have HB := n1_;clear n0_ n1_;clear hb ho57)|((with_reducible refine gate_dst (N := 36) rfl ?_);(try (refine gate_guard (by rfl) ?_;dsimp only));refine Kd.R_lit (Kd.int .i64) _ 3 ?hg (N := 36) ?hd (xs := ([2,2] : List Int)) (inner := [.int .i64 2,.int .i64 2]) (ok := fun _ => True) (okp := fun _ => True) ?hr ?hp (fun _ hk => hk) trivial (Below.refl _ _) (Nat.le_refl _) (by simp) ?_;(case hd => rfl);(case hg => rfl);(case hr => first|(go_simp;done)|(go_simp;rfl));(case hp => exact (Reps.one (show Kd.M (Kd.int .i64) _ _ _ 2 [.int .i64 2] from rfl) (Reps.one (show Kd.M (Kd.int .i64) _ _ _ 2 [.int .i64 2] from rfl) (Reps.none _ _))));intro v272 w58 ho59 hb hg_ hnew_;clear hg_ hnew_;(first|rw [← Ny271.out] at ho59|(simp only [Int.reduceToNat] at ho59;rw [← Ny271.out] at ho59));have n0_ := Aside0.mk (Kd.R_elder' (rM HO270.out) (Kd.R_base ho59) hb);have n1_ := Aside0.mk (Kd.R_lower (Kd.R_new' ho59 (Kd.R_lt (rM HO270.out))) (below_size (bM HB.out)));have n2_ := Aside0.mk (below_step (bM HB.out) hb);clear HO270;clear HB;have HO270 := n0_;have HO273 := n1_;have HB := n2_;clear n0_ n1_ n2_;clear hb ho59)|((with_reducible refine gate_dst (N := 37) rfl ?_);(try (refine gate_guard (by rfl) ?_;dsimp only));refine Kd.R_lit (Kd.int .i64) _ 3 ?hg (N := 37) ?hd (xs := ([1] : List Int)) (inner := [.int .i64 1]) (ok := fun _ => True) (okp := fun _ => True) ?hr ?hp (fun _ hk => hk) trivial (Below.refl _ _) (Nat.le_refl _) (by simp) ?_;(case hd => rfl);(case hg => rfl);(case hr => first|(go_simp;done)|(go_simp;rfl));(case hp => exact (Reps.one (show Kd.M (Kd.int .i64) _ _ _ 1 [.int .i64 1] from rfl) (Reps.none _ _)));intro v275 w60 ho61 hb hg_ hnew_;clear hg_ hnew_;(first|rw [← Ny274.out] at ho61|(simp only [Int.reduceToNat] at ho61;rw [← Ny274.out] at ho61));have n0_ := Aside0.mk (Kd.R_elder' (rM HO270.out) (Kd.R_base ho61) hb);have n1_ := Aside0.mk (Kd.R_elder' (rM HO273.out) (Kd.R_base ho61) hb);have n2_ := Aside0.mk (Kd.R_lower (Kd.R_new' (Kd.R_new' ho61 (Kd.R_lt (rM HO270.out))) (Kd.R_lt (rM HO273.out))) (below_size (bM HB.out)));have n3_ := Aside0.mk (below_step (bM HB.out) hb);clear HO270;clear HO273;clear HB;have HO270 := n0_;have HO273 := n1_;have HO276 := n2_;have HB := n3_;clear n0_ n1_ n2_ n3_;clear hb ho61;obtain ⟨Ao62,co62,eo62⟩ := Kd.R_slice HO270.out;subst eo62;obtain ⟨Ao63,co63,eo63⟩ := Kd.R_slice HO273.out;subst eo63;obtain ⟨Ao64,co64,eo64⟩ := Kd.R_slice HO276.out;subst eo64)|((with_reducible refine gate_dst (N := 38) rfl ?_);(try (refine gate_guard (by rfl) ?_;dsimp only));refine Kd.N_lit (Kd.slice 3 (Kd.int .i64)) _ 22 ?hg (N' := 38) ?hd (xs := ([y268,y271,y274] : List (List Int))) (inner := [.slice Ao62 y268.length co62,.slice Ao63 y271.length co63,.slice Ao64 y274.length co64]) (ok := (fun _ => True)) (okp := (fun _ => True)) ?hr ?hp (fun _ hk => hk) ((show ∀ k_,w60.heap.size ≤ k_ → (fun _ => True) k_ from fun k_ hk => trivial) _ (Nat.le_refl _)) (Below.refl _ _) (Nat.le_refl _) (by simp) ?_;(case hd => rfl);(case hg => rfl);(case hr => first|(go_simp;done)|(go_simp;rfl));(case hp => exact (Reps.one (show Kd.FK (Kd.slice 3 (Kd.int .i64)) _ _ y268 [.slice Ao62 y268.length co62] from (Kd.FK_slice_mk (Kd.R_reads' (Kd.R_mono (ok' := (fun _ => True)) (HO270.out) (fun k_ hk => trivial))).2.1 (Kd.R_F (Kd.R_mono (ok' := (fun _ => True)) (HO270.out) (fun k_ hk => trivial))))) (Reps.one (show Kd.FK (Kd.slice 3 (Kd.int .i64)) _ _ y271 [.slice Ao63 y271.length co63] from (Kd.FK_slice_mk (Kd.R_reads' (Kd.R_mono (ok' := (fun _ => True)) (HO273.out) (fun k_ hk => trivial))).2.1 (Kd.R_F (Kd.R_mono (ok' := (fun _ => True)) (HO273.out) (fun k_ hk => trivial))))) (Reps.one (show Kd.FK (Kd.slice 3 (Kd.int .i64)) _ _ y274 [.slice Ao64 y274.length co64] from (Kd.FK_slice_mk (Kd.R_reads' (Kd.R_mono (ok' := (fun _ => True)) (HO276.out) (fun k_ hk => trivial))).2.1 (Kd.R_F (Kd.R_mono (ok' := (fun _ => True)) (HO276.out) (fun k_ hk => trivial))))) (Reps.none _ _)))));intro v278 w65 ho66 hb hg_ hnew_;clear hg_ hnew_;(first|rw [← Ny277.out] at ho66|(simp only [Int.reduceToNat] at ho66;rw [← Ny277.out] at ho66));have n0_ := Aside0.mk (Kd.N_lower ho66 (below_size (bM HB.out)));have n1_ := Aside0.mk (below_step (bM HB.out) hb);clear HB;clear HO270;clear HO273;clear HO276;have HO279 := n0_;have HB := n1_;clear n0_ n1_;clear hb ho66;obtain ⟨Ao67,co67,eo67⟩ := Kd.N_slice HO279.out;subst eo67)|((with_reducible refine gate_callee (f := 20) rfl ?_);refine goesL_ (some 39) rfl rfl Try.func20 (by kernel_rfl) rfl #[.int .i64 2,.slice Ao67 y277.length co67] rfl (by (try simp only [List.map_toArray,List.map_cons,List.map_nil]);first|done|rfl|(simp only [List.length_drop,List.length_take];rfl)) ?_;(with_reducible refine (posting_AtLeast.calls kj0 2 _ _ y277 t280 _ ?side1 ?side2 A51.out).mono ?_);(case side1 => repeat (first|exact (Kd.N_reads' HO279.out).2.2|(with_reducible refine Kd.C_alloc ?_ _)|(with_reducible refine Kd.C_drewN ?_ _)|(with_reducible refine Kd.C_drew ?_)));(case side2 => exact (Kd.N_reads' HO279.out).2.1);rintro e w68 ⟨v281,rfl,ho0,hb⟩;refine ⟨_,rfl,?_⟩;have n0_ := Aside0.mk (Kd.N_elder' (by (with_reducible repeat (first|apply Kd.N_alloc|apply Kd.N_drewN|apply Kd.N_drew));exact HO279.out) (Kd.R_base ho0) hb);have n1_ := Aside0.mk (Kd.R_lower ho0 (below_size (bM HB.out)));have n2_ := Aside0.mk (below_step (bM HB.out) hb);clear HO279;clear HB;have HO279 := n0_;have HO282 := n1_;have HB := n2_;clear n0_ n1_ n2_;(try clear hb);(try clear hb2);(try clear hk);(try clear hi);(try clear ho0))|((with_reducible refine gate_dst (N := 40) rfl ?_);(try (refine gate_guard (by rfl) ?_;dsimp only));refine Kd.R_lit (Kd.int .i64) _ 3 ?hg (N := 40) ?hd (xs := ([1,2] : List Int)) (inner := [.int .i64 1,.int .i64 2]) (ok := fun _ => True) (okp := fun _ => True) ?hr ?hp (fun _ hk => hk) trivial (Below.refl _ _) (Nat.le_refl _) (by simp) ?_;(case hd => rfl);(case hg => rfl);(case hr => first|(go_simp;done)|(go_simp;rfl));(case hp => exact (Reps.one (show Kd.M (Kd.int .i64) _ _ _ 1 [.int .i64 1] from rfl) (Reps.one (show Kd.M (Kd.int .i64) _ _ _ 2 [.int .i64 2] from rfl) (Reps.none _ _))));intro v284 w69 ho70 hb hg_ hnew_;clear hg_ hnew_;(first|rw [← Ny283.out] at ho70|(simp only [Int.reduceToNat] at ho70;rw [← Ny283.out] at ho70));have n0_ := Aside0.mk (Kd.N_elder' (by (with_reducible repeat (first|apply Kd.N_alloc|apply Kd.N_drewN|apply Kd.N_drew));exact HO279.out) (Kd.R_base ho70) hb);have n1_ := Aside0.mk (Kd.R_elder' (rM HO282.out) (Kd.R_base ho70) hb);have n2_ := Aside0.mk (Kd.R_lower (Kd.R_new' ho70 (Kd.R_lt (rM HO282.out))) (below_size (bM HB.out)));have n3_ := Aside0.mk (below_step (bM HB.out) hb);clear HO279;clear HO282;clear HB;have HO279 := n0_;have HO282 := n1_;have HO285 := n2_;have HB := n3_;clear n0_ n1_ n2_ n3_;clear hb ho70;obtain ⟨Ao71,co71,eo71⟩ := Kd.R_slice HO282.out;subst eo71;obtain ⟨Ao72,co72,eo72⟩ := Kd.R_slice HO285.out;subst eo72)|((with_reducible refine gate_callee (f := 13) rfl ?_);refine goesL_ (some 41) rfl rfl Try.func13 (by kernel_rfl) rfl #[.slice Ao71 t280.length co71,.slice Ao72 y283.length co72] rfl (by (try simp only [List.map_toArray,List.map_cons,List.map_nil]);first|done|rfl|(simp only [List.length_drop,List.length_take];rfl)) ?_;(with_reducible refine (codesearchref05_Same.calls kj0 _ _ t280 _ _ y283 true _ ?side1 ?side2 ?side3 ?side4 A52.out).mono ?_);(case side1 => exact cM (Kd.R_reads' HO282.out).2.2);(case side2 => exact (Kd.R_reads' HO282.out).2.1);(case side3 => exact cM (Kd.R_reads' HO285.out).2.2);(case side4 => exact (Kd.R_reads' HO285.out).2.1);rintro e w' ⟨rfl,⟨nd,rfl⟩⟩;refine ⟨_,rfl,?_⟩)|((with_reducible refine gate_dst (N := 44) rfl ?_);(try (refine gate_guard (by rfl) ?_;dsimp only));refine Kd.R_lit (Kd.int .i64) _ 3 ?hg (N := 44) ?hd (xs := ([5,300] : List Int)) (inner := [.int .i64 5,.int .i64 300]) (ok := fun _ => True) (okp := fun _ => True) ?hr ?hp (fun _ hk => hk) trivial (Below.refl _ _) (Nat.le_refl _) (by simp) ?_;(case hd => rfl);(case hg => rfl);(case hr => first|(go_simp;done)|(go_simp;rfl));(case hp => exact (Reps.one (show Kd.M (Kd.int .i64) _ _ _ 5 [.int .i64 5] from rfl) (Reps.one (show Kd.M (Kd.int .i64) _ _ _ 300 [.int .i64 300] from rfl) (Reps.none _ _))));intro v288 w73 ho74 hb hg_ hnew_;clear hg_ hnew_;(first|rw [← Ny287.out] at ho74|(simp only [Int.reduceToNat] at ho74;rw [← Ny287.out] at ho74));have n0_ := Aside0.mk (Kd.N_elder' (by (with_reducible repeat (first|apply Kd.N_alloc|apply Kd.N_drewN|apply Kd.N_drew));exact HO279.out) (Kd.R_base ho74) hb);have n1_ := Aside0.mk (Kd.R_elder' (rM HO282.out) (Kd.R_base ho74) hb);have n2_ := Aside0.mk (Kd.R_elder' (rM HO285.out) (Kd.R_base ho74) hb);have n3_ := Aside0.mk (Kd.R_lower (Kd.R_new' (Kd.R_new' ho74 (Kd.R_lt (rM HO282.out))) (Kd.R_lt (rM HO285.out))) (below_size (bM HB.out)));have n4_ := Aside0.mk (below_step (bM HB.out) hb);clear HO279;clear HO282;clear HO285;clear HB;have HO279 := n0_;have HO282 := n1_;have HO285 := n2_;have HO289 := n3_;have HB := n4_;clear n0_ n1_ n2_ n3_ n4_;clear hb ho74;obtain ⟨Ao75,co75,eo75⟩ := Kd.R_slice HO289.out;subst eo75)|((with_reducible refine gate_callee (f := 22) rfl ?_);refine goesL_ (some 45) rfl rfl Try.func22 (by kernel_rfl) rfl #[.slice Ao75 y287.length co75] rfl (by (try simp only [List.map_toArray,List.map_cons,List.map_nil]);first|done|rfl|(simp only [List.length_drop,List.length_take];rfl)) ?_;(with_reducible refine (posting_Pack.calls kj0 (fun k_ => some k_ = (.slice Ao75 y287.length co75 : Value).ownBlock) _ _ y287 t290 t293 _ ?side1 A54.out).mono ?_);(case side1 => exact Kd.R_V (Kd.R_tight rfl (Kd.R_apart' (HO289.out) (Kd.N_typed HO279.out) (by decide))));rintro e w76 ⟨v291,rfl,ho0,hb⟩;refine ⟨_,rfl,?_⟩;have n0_ := Aside0.mk (Kd.N_elder' (by (with_reducible repeat (first|apply Kd.N_alloc|apply Kd.N_drewN|apply Kd.N_drew));exact HO279.out) (Kd.R_base ho0) hb);have n1_ := Aside0.mk (Kd.R_below (rM HO282.out) hb);have n2_ := Aside0.mk (Kd.R_below (rM HO285.out) hb);have n3_ := Aside0.mk (Kd.R_below (rM HO289.out) hb);have n4_ := Aside0.mk (Kd.R_lower (Kd.R_mono (ok' := fun k_ => True) ho0 (fun _ hk_ => trivial)) (below_size (bM HB.out)));have n5_ := Aside0.mk (below_step (bM HB.out) hb);clear HO279;clear HO282;clear HO285;clear HO289;clear HB;have HO279 := n0_;have HO282 := n1_;have HO285 := n2_;have HO289 := n3_;have HO292 := n4_;have HB := n5_;clear n0_ n1_ n2_ n3_ n4_ n5_;(try clear hb);(try clear hb2);(try clear hk);(try clear hi);(try clear ho0)))
     (try simp only [Act.put,List.setIfInBounds_toArray,List.set_cons_zero,List.set_cons_succ])
     go_cut [55] (fun v55 wc => ∃ (kq : Nat) (x55_54 : Bool),v55 = .bool x55_54 ∧ Aside0 (codesearchlaw05_alive.j1 kq t290 x55_54 = some r) ∧ Aside0 (kq ≤ kj0) ∧ Aside0 (Kd.R (Kd.int .u8) 5 wc w.heap.size (fun _ => True) v291 t290) ∧ Aside0 (Below w.heap.size w wc))
     case first =>
      have H := HC55.out
      clear HC55
      by_cases c77 : t293 = 0
      ·rw [if_pos c77] at H
       have c77b0 : (t293 == 0) = true := beq_iff_eq.mpr c77
       have c77b1 : (t293 != 0) = false := bne_eq_false_iff_eq.mpr c77
       clear c77
       (first|rw [c77b0]|(simp only [i64_w,i32_w];rw [c77b0])|skip)
       obtain ⟨y294,hy294⟩ : ∃ y_ : List Int,y_ = (([2,172,2,4,2,5,167,2] : List Int)) := ⟨_,rfl⟩
       replace H : ((codesearchlaw05_sameBytes.f t290 y294).bind fun t297 => (codesearchlaw05_alive.j1 kj0 t290 (!t297))) = some r := by first|(rw [hy294];with_reducible exact H)|(have H2_ := (Option.bind_some _ _).symm.trans H;rw [hy294];with_reducible exact H2_)|(have H2_ := (Option.bind_some _ _).symm.trans H;with_reducible exact H2_)|with_reducible exact H|(rw [hy294];exact H)|exact H
       have Ny294 := Aside0.mk hy294
       clear hy294
       replace H := Option.bind_eq_some_iff.mp H
       obtain ⟨t297,A780,H⟩ := H
       replace H : (codesearchlaw05_alive.j1 kj0 t290 (!t297)) = some r := H
       have A78 := Aside0.mk A780
       clear A780
       have H' := Aside0.mk H
       clear H
       go_wp2_with (first|((with_reducible refine gate_dst (N := 52) rfl ?_);(try (refine gate_guard (by rfl) ?_;dsimp only));refine Kd.R_lit (Kd.int .u8) _ 5 ?hg (N := 52) ?hd (xs := ([2,172,2,4,2,5,167,2] : List Int)) (inner := [.int .u8 2,.int .u8 172,.int .u8 2,.int .u8 4,.int .u8 2,.int .u8 5,.int .u8 167,.int .u8 2]) (ok := fun _ => True) (okp := fun _ => True) ?hr ?hp (fun _ hk => hk) trivial (Below.refl _ _) (Nat.le_refl _) (by simp) ?_;(case hd => rfl);(case hg => rfl);(case hr => first|(go_simp;done)|(go_simp;rfl));(case hp => exact (Reps.one (show Kd.M (Kd.int .u8) _ _ _ 2 [.int .u8 2] from rfl) (Reps.one (show Kd.M (Kd.int .u8) _ _ _ 172 [.int .u8 172] from rfl) (Reps.one (show Kd.M (Kd.int .u8) _ _ _ 2 [.int .u8 2] from rfl) (Reps.one (show Kd.M (Kd.int .u8) _ _ _ 4 [.int .u8 4] from rfl) (Reps.one (show Kd.M (Kd.int .u8) _ _ _ 2 [.int .u8 2] from rfl) (Reps.one (show Kd.M (Kd.int .u8) _ _ _ 5 [.int .u8 5] from rfl) (Reps.one (show Kd.M (Kd.int .u8) _ _ _ 167 [.int .u8 167] from rfl) (Reps.one (show Kd.M (Kd.int .u8) _ _ _ 2 [.int .u8 2] from rfl) (Reps.none _ _))))))))));intro v295 w79 ho80 hb hg_ hnew_;clear hg_ hnew_;(first|rw [← Ny294.out] at ho80|(simp only [Int.reduceToNat] at ho80;rw [← Ny294.out] at ho80));have n0_ := Aside0.mk (Kd.N_elder' (by (with_reducible repeat (first|apply Kd.N_alloc|apply Kd.N_drewN|apply Kd.N_drew));exact HO279.out) (Kd.R_base ho80) hb);have n1_ := Aside0.mk (Kd.R_below (rM HO282.out) hb);have n2_ := Aside0.mk (Kd.R_below (rM HO285.out) hb);have n3_ := Aside0.mk (Kd.R_below (rM HO289.out) hb);have n4_ := Aside0.mk (Kd.R_elder' (rM HO292.out) (Kd.R_base ho80) hb);have n5_ := Aside0.mk (Kd.R_lower (Kd.R_new' ho80 (Kd.R_lt (rM HO292.out))) (below_size (bM HB.out)));have n6_ := Aside0.mk (below_step (bM HB.out) hb);clear HO279;clear HO282;clear HO285;clear HO289;clear HO292;clear HB;have HO279 := n0_;have HO282 := n1_;have HO285 := n2_;have HO289 := n3_;have HO292 := n4_;have HO296 := n5_;have HB := n6_;clear n0_ n1_ n2_ n3_ n4_ n5_ n6_;clear hb ho80;obtain ⟨Ao81,co81,eo81⟩ := Kd.R_slice HO292.out;subst eo81;obtain ⟨Ao82,co82,eo82⟩ := Kd.R_slice HO296.out;subst eo82)|(go_at_call 24;(with_reducible refine (codesearchlaw05_sameBytes.calls _ _ t290 _ _ y294 t297 _ ?side1 ?side2 ?side3 ?side4 A78.out).mono ?_);(case side1 => exact cM (Kd.R_reads' HO292.out).2.2);(case side2 => exact (Kd.R_reads' HO292.out).2.1);(case side3 => exact cM (Kd.R_reads' HO296.out).2.2);(case side4 => exact (Kd.R_reads' HO296.out).2.1);rintro e w' ⟨rfl,⟨nd,rfl⟩⟩))
       go_meet
       case rel => exact ⟨_,(!t297),(by first|rfl|(simp;done)|(simp [*];done)),H',⟨by have := HJ0.out;first|omega|exact Nat.le_refl _⟩,⟨rM (Kd.R_mono HO292.out (fun _ hk => trivial))⟩,⟨bM HB.out⟩⟩
      ·rw [if_neg c77] at H
       have c77b0 : (t293 == 0) = false := beq_eq_false_iff_ne.mpr c77
       have c77b1 : (t293 != 0) = true := bne_iff_ne.mpr c77
       (first|rw [c77b0]|(simp only [i64_w,i32_w];rw [c77b0])|skip)
       have H' := Aside0.mk H
       clear H
       go_wp2
       go_meet
       case rel => exact ⟨_,(true),(by first|rfl|(simp;done)|(simp [*];done)),H',⟨by have := HJ0.out;first|omega|exact Nat.le_refl _⟩,⟨rM HO292.out⟩,⟨bM HB.out⟩⟩
     case rest =>
      clear HC55
      try clear c1
      try clear c2
      try clear p2
      try clear c5
      try clear c7
      try clear c8
      try clear c10
      try clear c11
      try clear c13
      try clear c14
      try clear c20
      try clear c22
      try clear c50
      try clear c53
      try clear c77
      try clear c77b0
      try clear c77b1
      try clear p2
      obtain ⟨kq,x55_54,rfl,HA,HJ54,HO_3,HB⟩ := hcut
      cases kq with
     |zero => exact absurd HA.out (by simp [codesearchlaw05_alive.j1])
     |succ kj54 =>
       have H := HA.out
       clear HA
       simp only [codesearchlaw05_alive.j1] at H
       by_cases c83 : x55_54 = true
       ·subst c83
        have H1 : (some false) = some r := by rw [if_pos rfl] at H;exact H
        clear H
        have H := H1
        clear H1
        obtain rfl := Option.some.inj H
        go_wp2
        go_ret
        exact ⟨by first|rfl|(simp [errW_none,errW_some] <;> rfl)|(simp [*,errW_none,errW_some] <;> rfl),bM HB.out⟩
       ·replace c83 := Bool.eq_false_iff.mpr c83
        subst c83
        have H1 : ((posting_Unpack.f kj54 t290).bind fun bt298 => ((posting_Seek.f kj54 t290 6).bind fun bt302 => ((posting_Seek.f kj54 t290 301).bind fun bt304 => (if bt298.2 = 0 then ((codesearchref05_Same.f kj54 bt298.1 (([5,300] : List Int))).bind fun t309 => (if t309 = true then (if bt302.2 = true then (if bt302.1 = 300 then (if bt304.2 = true then (some false) else ((posting_Has.f kj54 bt298.1 5).bind fun t310 => (some t310))) else (some false)) else (some false)) else (some false))) else (some false))))) = some r := by rw [if_neg (show ¬ (false = true) by decide)] at H;exact H
        clear H
        have H := H1
        clear H1
        replace H := Option.bind_eq_some_iff.mp H
        obtain ⟨⟨t298,t299⟩,A840,H⟩ := H
        replace H : ((posting_Seek.f kj54 t290 6).bind fun bt302 => ((posting_Seek.f kj54 t290 301).bind fun bt304 => (if t299 = 0 then ((codesearchref05_Same.f kj54 t298 (([5,300] : List Int))).bind fun t309 => (if t309 = true then (if bt302.2 = true then (if bt302.1 = 300 then (if bt304.2 = true then (some false) else ((posting_Has.f kj54 t298 5).bind fun t310 => (some t310))) else (some false)) else (some false)) else (some false))) else (some false)))) = some r := H
        have A84 := Aside0.mk A840
        clear A840
        replace H := Option.bind_eq_some_iff.mp H
        obtain ⟨⟨t302,t303⟩,A850,H⟩ := H
        replace H : ((posting_Seek.f kj54 t290 301).bind fun bt304 => (if t299 = 0 then ((codesearchref05_Same.f kj54 t298 (([5,300] : List Int))).bind fun t309 => (if t309 = true then (if t303 = true then (if t302 = 300 then (if bt304.2 = true then (some false) else ((posting_Has.f kj54 t298 5).bind fun t310 => (some t310))) else (some false)) else (some false)) else (some false))) else (some false))) = some r := H
        have A85 := Aside0.mk A850
        clear A850
        replace H := Option.bind_eq_some_iff.mp H
        obtain ⟨⟨t304,t305⟩,A860,H⟩ := H
        replace H : (if t299 = 0 then ((codesearchref05_Same.f kj54 t298 (([5,300] : List Int))).bind fun t309 => (if t309 = true then (if t303 = true then (if t302 = 300 then (if t305 = true then (some false) else ((posting_Has.f kj54 t298 5).bind fun t310 => (some t310))) else (some false)) else (some false)) else (some false))) else (some false)) = some r := H
        have A86 := Aside0.mk A860
        clear A860
        by_cases c87 : t299 = 0
        ·rw [if_pos c87] at H
         have c87b0 : (t299 == 0) = true := beq_iff_eq.mpr c87
         have c87b1 : (t299 != 0) = false := bne_eq_false_iff_eq.mpr c87
         clear c87
         obtain ⟨y306,hy306⟩ : ∃ y_ : List Int,y_ = (([5,300] : List Int)) := ⟨_,rfl⟩
         replace H : ((codesearchref05_Same.f kj54 t298 y306).bind fun t309 => (if t309 = true then (if t303 = true then (if t302 = 300 then (if t305 = true then (some false) else ((posting_Has.f kj54 t298 5).bind fun t310 => (some t310))) else (some false)) else (some false)) else (some false))) = some r := by first|(rw [hy306];with_reducible exact H)|(have H2_ := (Option.bind_some _ _).symm.trans H;rw [hy306];with_reducible exact H2_)|(have H2_ := (Option.bind_some _ _).symm.trans H;with_reducible exact H2_)|with_reducible exact H|(rw [hy306];exact H)|exact H
         have Ny306 := Aside0.mk hy306
         clear hy306
         replace H := Option.bind_eq_some_iff.mp H
         obtain ⟨t309,A880,H⟩ := H
         replace H : (if t309 = true then (if t303 = true then (if t302 = 300 then (if t305 = true then (some false) else ((posting_Has.f kj54 t298 5).bind fun t310 => (some t310))) else (some false)) else (some false)) else (some false)) = some r := H
         have A88 := Aside0.mk A880
         clear A880
         by_cases c89 : t309 = true
         ·subst c89
          have H1 : (if t303 = true then (if t302 = 300 then (if t305 = true then (some false) else ((posting_Has.f kj54 t298 5).bind fun t310 => (some t310))) else (some false)) else (some false)) = some r := by rw [if_pos rfl] at H;exact H
          clear H
          have H := H1
          clear H1
          by_cases c90 : t303 = true
          ·subst c90
           have H1 : (if t302 = 300 then (if t305 = true then (some false) else ((posting_Has.f kj54 t298 5).bind fun t310 => (some t310))) else (some false)) = some r := by rw [if_pos rfl] at H;exact H
           clear H
           have H := H1
           clear H1
           by_cases c91 : t302 = 300
           ·rw [if_pos c91] at H
            have c91b0 : (t302 == 300) = true := beq_iff_eq.mpr c91
            have c91b1 : (t302 != 300) = false := bne_eq_false_iff_eq.mpr c91
            clear c91
            by_cases c92 : t305 = true
            ·subst c92
             have H1 : (some false) = some r := by rw [if_pos rfl] at H;exact H
             clear H
             have H := H1
             clear H1
             obtain rfl := Option.some.inj H
             obtain ⟨Ao93,co93,eo93⟩ := Kd.R_slice HO_3.out
             subst eo93
             go_wp2_with (first|((with_reducible refine gate_callee (f := 27) rfl ?_);refine goesL_ (some 58) rfl rfl Try.func27 (by kernel_rfl) rfl #[.slice Ao93 t290.length co93] rfl (by (try simp only [List.map_toArray,List.map_cons,List.map_nil]);first|done|rfl|(simp only [List.length_drop,List.length_take];rfl)) ?_;(with_reducible refine (posting_Unpack.calls kj54 _ _ t290 t298 t299 _ ?side1 ?side2 A84.out).mono ?_);(case side1 => exact cM (Kd.R_reads' HO_3.out).2.2);(case side2 => exact (Kd.R_reads' HO_3.out).2.1);rintro e w94 ⟨v300,rfl,ho0,hb⟩;refine ⟨_,rfl,?_⟩;have n0_ := Aside0.mk (Kd.R_below (rM HO_3.out) hb);have n1_ := Aside0.mk (Kd.R_lower ho0 (below_size (bM HB.out)));have n2_ := Aside0.mk (below_step (bM HB.out) hb);clear HO_3;clear HB;have HO_3 := n0_;have HO301 := n1_;have HB := n2_;clear n0_ n1_ n2_;(try clear hb);(try clear hb2);(try clear hk);(try clear hi);(try clear ho0))|((with_reducible refine gate_callee (f := 29) rfl ?_);refine goesL_ (some 63) rfl rfl Try.func29 (by kernel_rfl) rfl #[.slice Ao93 t290.length co93,.int .i64 6] rfl (by (try simp only [List.map_toArray,List.map_cons,List.map_nil]);first|done|rfl|(simp only [List.length_drop,List.length_take];rfl)) ?_;(with_reducible refine (posting_Seek.calls kj54 _ _ t290 6 t302 true _ ?side1 ?side2 A85.out).mono ?_);(case side1 => exact cM (Kd.R_reads' HO_3.out).2.2);(case side2 => exact (Kd.R_reads' HO_3.out).2.1);rintro e w95 ⟨rfl,hb⟩;refine ⟨_,rfl,?_⟩;have n0_ := Aside0.mk (Kd.R_below (rM HO_3.out) hb);have n1_ := Aside0.mk (Kd.R_below (rM HO301.out) hb);have n2_ := Aside0.mk (below_step (bM HB.out) hb);clear HO_3;clear HO301;clear HB;have HO_3 := n0_;have HO301 := n1_;have HB := n2_;clear n0_ n1_ n2_;(try clear hb);(try clear hb2);(try clear hk);(try clear hi))|((with_reducible refine gate_callee (f := 29) rfl ?_);refine goesL_ (some 68) rfl rfl Try.func29 (by kernel_rfl) rfl #[.slice Ao93 t290.length co93,.int .i64 301] rfl (by (try simp only [List.map_toArray,List.map_cons,List.map_nil]);first|done|rfl|(simp only [List.length_drop,List.length_take];rfl)) ?_;(with_reducible refine (posting_Seek.calls kj54 _ _ t290 301 t304 true _ ?side1 ?side2 A86.out).mono ?_);(case side1 => exact cM (Kd.R_reads' HO_3.out).2.2);(case side2 => exact (Kd.R_reads' HO_3.out).2.1);rintro e w96 ⟨rfl,hb⟩;refine ⟨_,rfl,?_⟩;have n0_ := Aside0.mk (Kd.R_below (rM HO_3.out) hb);have n1_ := Aside0.mk (Kd.R_below (rM HO301.out) hb);have n2_ := Aside0.mk (below_step (bM HB.out) hb);clear HO_3;clear HO301;clear HB;have HO_3 := n0_;have HO301 := n1_;have HB := n2_;clear n0_ n1_ n2_;(try clear hb);(try clear hb2);(try clear hk);(try clear hi))|((with_reducible refine gate_dst (N := 75) rfl ?_);(try (refine gate_guard (by rfl) ?_;dsimp only));refine Kd.R_lit (Kd.int .i64) _ 3 ?hg (N := 75) ?hd (xs := ([5,300] : List Int)) (inner := [.int .i64 5,.int .i64 300]) (ok := fun _ => True) (okp := fun _ => True) ?hr ?hp (fun _ hk => hk) trivial (Below.refl _ _) (Nat.le_refl _) (by simp) ?_;(case hd => rfl);(case hg => rfl);(case hr => first|(go_simp;done)|(go_simp;rfl));(case hp => exact (Reps.one (show Kd.M (Kd.int .i64) _ _ _ 5 [.int .i64 5] from rfl) (Reps.one (show Kd.M (Kd.int .i64) _ _ _ 300 [.int .i64 300] from rfl) (Reps.none _ _))));intro v307 w97 ho98 hb hg_ hnew_;clear hg_ hnew_;(first|rw [← Ny306.out] at ho98|(simp only [Int.reduceToNat] at ho98;rw [← Ny306.out] at ho98));have n0_ := Aside0.mk (Kd.R_below (rM HO_3.out) hb);have n1_ := Aside0.mk (Kd.R_elder' (rM HO301.out) (Kd.R_base ho98) hb);have n2_ := Aside0.mk (Kd.R_lower (Kd.R_new' ho98 (Kd.R_lt (rM HO301.out))) (below_size (bM HB.out)));have n3_ := Aside0.mk (below_step (bM HB.out) hb);clear HO_3;clear HO301;clear HB;have HO_3 := n0_;have HO301 := n1_;have HO308 := n2_;have HB := n3_;clear n0_ n1_ n2_ n3_;clear hb ho98;obtain ⟨Ao99,co99,eo99⟩ := Kd.R_slice HO301.out;subst eo99;obtain ⟨Ao100,co100,eo100⟩ := Kd.R_slice HO308.out;subst eo100)|(go_at_call 13;(with_reducible refine (codesearchref05_Same.calls kj54 _ _ t298 _ _ y306 true _ ?side1 ?side2 ?side3 ?side4 A88.out).mono ?_);(case side1 => exact cM (Kd.R_reads' HO301.out).2.2);(case side2 => exact (Kd.R_reads' HO301.out).2.1);(case side3 => exact cM (Kd.R_reads' HO308.out).2.2);(case side4 => exact (Kd.R_reads' HO308.out).2.1);rintro e w' ⟨rfl,⟨nd,rfl⟩⟩))
             go_ret
             exact ⟨by first|rfl|(simp [errW_none,errW_some] <;> rfl)|(simp [*,errW_none,errW_some] <;> rfl),bM HB.out⟩
            ·replace c92 := Bool.eq_false_iff.mpr c92
             subst c92
             have H1 : ((posting_Has.f kj54 t298 5).bind fun t310 => (some t310)) = some r := by rw [if_neg (show ¬ (false = true) by decide)] at H;exact H
             clear H
             have H := H1
             clear H1
             replace H := Option.bind_eq_some_iff.mp H
             obtain ⟨t310,A1010,H⟩ := H
             replace H : (some t310) = some r := H
             have A101 := Aside0.mk A1010
             clear A1010
             obtain rfl := Option.some.inj H
             obtain ⟨Ao102,co102,eo102⟩ := Kd.R_slice HO_3.out
             subst eo102
             go_wp2_with (first|((with_reducible refine gate_callee (f := 27) rfl ?_);refine goesL_ (some 58) rfl rfl Try.func27 (by kernel_rfl) rfl #[.slice Ao102 t290.length co102] rfl (by (try simp only [List.map_toArray,List.map_cons,List.map_nil]);first|done|rfl|(simp only [List.length_drop,List.length_take];rfl)) ?_;(with_reducible refine (posting_Unpack.calls kj54 _ _ t290 t298 t299 _ ?side1 ?side2 A84.out).mono ?_);(case side1 => exact cM (Kd.R_reads' HO_3.out).2.2);(case side2 => exact (Kd.R_reads' HO_3.out).2.1);rintro e w103 ⟨v300,rfl,ho0,hb⟩;refine ⟨_,rfl,?_⟩;have n0_ := Aside0.mk (Kd.R_below (rM HO_3.out) hb);have n1_ := Aside0.mk (Kd.R_lower ho0 (below_size (bM HB.out)));have n2_ := Aside0.mk (below_step (bM HB.out) hb);clear HO_3;clear HB;have HO_3 := n0_;have HO301 := n1_;have HB := n2_;clear n0_ n1_ n2_;(try clear hb);(try clear hb2);(try clear hk);(try clear hi);(try clear ho0))|((with_reducible refine gate_callee (f := 29) rfl ?_);refine goesL_ (some 63) rfl rfl Try.func29 (by kernel_rfl) rfl #[.slice Ao102 t290.length co102,.int .i64 6] rfl (by (try simp only [List.map_toArray,List.map_cons,List.map_nil]);first|done|rfl|(simp only [List.length_drop,List.length_take];rfl)) ?_;(with_reducible refine (posting_Seek.calls kj54 _ _ t290 6 t302 true _ ?side1 ?side2 A85.out).mono ?_);(case side1 => exact cM (Kd.R_reads' HO_3.out).2.2);(case side2 => exact (Kd.R_reads' HO_3.out).2.1);rintro e w104 ⟨rfl,hb⟩;refine ⟨_,rfl,?_⟩;have n0_ := Aside0.mk (Kd.R_below (rM HO_3.out) hb);have n1_ := Aside0.mk (Kd.R_below (rM HO301.out) hb);have n2_ := Aside0.mk (below_step (bM HB.out) hb);clear HO_3;clear HO301;clear HB;have HO_3 := n0_;have HO301 := n1_;have HB := n2_;clear n0_ n1_ n2_;(try clear hb);(try clear hb2);(try clear hk);(try clear hi))|((with_reducible refine gate_callee (f := 29) rfl ?_);refine goesL_ (some 68) rfl rfl Try.func29 (by kernel_rfl) rfl #[.slice Ao102 t290.length co102,.int .i64 301] rfl (by (try simp only [List.map_toArray,List.map_cons,List.map_nil]);first|done|rfl|(simp only [List.length_drop,List.length_take];rfl)) ?_;(with_reducible refine (posting_Seek.calls kj54 _ _ t290 301 t304 false _ ?side1 ?side2 A86.out).mono ?_);(case side1 => exact cM (Kd.R_reads' HO_3.out).2.2);(case side2 => exact (Kd.R_reads' HO_3.out).2.1);rintro e w105 ⟨rfl,hb⟩;refine ⟨_,rfl,?_⟩;have n0_ := Aside0.mk (Kd.R_below (rM HO_3.out) hb);have n1_ := Aside0.mk (Kd.R_below (rM HO301.out) hb);have n2_ := Aside0.mk (below_step (bM HB.out) hb);clear HO_3;clear HO301;clear HB;have HO_3 := n0_;have HO301 := n1_;have HB := n2_;clear n0_ n1_ n2_;(try clear hb);(try clear hb2);(try clear hk);(try clear hi))|((with_reducible refine gate_dst (N := 75) rfl ?_);(try (refine gate_guard (by rfl) ?_;dsimp only));refine Kd.R_lit (Kd.int .i64) _ 3 ?hg (N := 75) ?hd (xs := ([5,300] : List Int)) (inner := [.int .i64 5,.int .i64 300]) (ok := fun _ => True) (okp := fun _ => True) ?hr ?hp (fun _ hk => hk) trivial (Below.refl _ _) (Nat.le_refl _) (by simp) ?_;(case hd => rfl);(case hg => rfl);(case hr => first|(go_simp;done)|(go_simp;rfl));(case hp => exact (Reps.one (show Kd.M (Kd.int .i64) _ _ _ 5 [.int .i64 5] from rfl) (Reps.one (show Kd.M (Kd.int .i64) _ _ _ 300 [.int .i64 300] from rfl) (Reps.none _ _))));intro v307 w106 ho107 hb hg_ hnew_;clear hg_ hnew_;(first|rw [← Ny306.out] at ho107|(simp only [Int.reduceToNat] at ho107;rw [← Ny306.out] at ho107));have n0_ := Aside0.mk (Kd.R_below (rM HO_3.out) hb);have n1_ := Aside0.mk (Kd.R_elder' (rM HO301.out) (Kd.R_base ho107) hb);have n2_ := Aside0.mk (Kd.R_lower (Kd.R_new' ho107 (Kd.R_lt (rM HO301.out))) (below_size (bM HB.out)));have n3_ := Aside0.mk (below_step (bM HB.out) hb);clear HO_3;clear HO301;clear HB;have HO_3 := n0_;have HO301 := n1_;have HO308 := n2_;have HB := n3_;clear n0_ n1_ n2_ n3_;clear hb ho107;obtain ⟨Ao108,co108,eo108⟩ := Kd.R_slice HO301.out;subst eo108;obtain ⟨Ao109,co109,eo109⟩ := Kd.R_slice HO308.out;subst eo109)|(go_at_call 13;(with_reducible refine (codesearchref05_Same.calls kj54 _ _ t298 _ _ y306 true _ ?side1 ?side2 ?side3 ?side4 A88.out).mono ?_);(case side1 => exact cM (Kd.R_reads' HO301.out).2.2);(case side2 => exact (Kd.R_reads' HO301.out).2.1);(case side3 => exact cM (Kd.R_reads' HO308.out).2.2);(case side4 => exact (Kd.R_reads' HO308.out).2.1);rintro e w' ⟨rfl,⟨nd,rfl⟩⟩)|(go_at_call 25;(with_reducible refine (posting_Has.calls kj54 _ _ t298 5 t310 _ ?side1 ?side2 A101.out).mono ?_);(case side1 => exact cM (Kd.R_reads' HO301.out).2.2);(case side2 => exact (Kd.R_reads' HO301.out).2.1);rintro e w' ⟨rfl,⟨nd,rfl⟩⟩))
             go_ret
             exact ⟨by first|rfl|(simp [errW_none,errW_some] <;> rfl)|(simp [*,errW_none,errW_some] <;> rfl),bM HB.out⟩
           ·rw [if_neg c91] at H
            have c91b0 : (t302 == 300) = false := beq_eq_false_iff_ne.mpr c91
            have c91b1 : (t302 != 300) = true := bne_iff_ne.mpr c91
            obtain rfl := Option.some.inj H
            obtain ⟨Ao110,co110,eo110⟩ := Kd.R_slice HO_3.out
            subst eo110
            go_wp2_with (first|((with_reducible refine gate_callee (f := 27) rfl ?_);refine goesL_ (some 58) rfl rfl Try.func27 (by kernel_rfl) rfl #[.slice Ao110 t290.length co110] rfl (by (try simp only [List.map_toArray,List.map_cons,List.map_nil]);first|done|rfl|(simp only [List.length_drop,List.length_take];rfl)) ?_;(with_reducible refine (posting_Unpack.calls kj54 _ _ t290 t298 t299 _ ?side1 ?side2 A84.out).mono ?_);(case side1 => exact cM (Kd.R_reads' HO_3.out).2.2);(case side2 => exact (Kd.R_reads' HO_3.out).2.1);rintro e w111 ⟨v300,rfl,ho0,hb⟩;refine ⟨_,rfl,?_⟩;have n0_ := Aside0.mk (Kd.R_below (rM HO_3.out) hb);have n1_ := Aside0.mk (Kd.R_lower ho0 (below_size (bM HB.out)));have n2_ := Aside0.mk (below_step (bM HB.out) hb);clear HO_3;clear HB;have HO_3 := n0_;have HO301 := n1_;have HB := n2_;clear n0_ n1_ n2_;(try clear hb);(try clear hb2);(try clear hk);(try clear hi);(try clear ho0))|((with_reducible refine gate_callee (f := 29) rfl ?_);refine goesL_ (some 63) rfl rfl Try.func29 (by kernel_rfl) rfl #[.slice Ao110 t290.length co110,.int .i64 6] rfl (by (try simp only [List.map_toArray,List.map_cons,List.map_nil]);first|done|rfl|(simp only [List.length_drop,List.length_take];rfl)) ?_;(with_reducible refine (posting_Seek.calls kj54 _ _ t290 6 t302 true _ ?side1 ?side2 A85.out).mono ?_);(case side1 => exact cM (Kd.R_reads' HO_3.out).2.2);(case side2 => exact (Kd.R_reads' HO_3.out).2.1);rintro e w112 ⟨rfl,hb⟩;refine ⟨_,rfl,?_⟩;have n0_ := Aside0.mk (Kd.R_below (rM HO_3.out) hb);have n1_ := Aside0.mk (Kd.R_below (rM HO301.out) hb);have n2_ := Aside0.mk (below_step (bM HB.out) hb);clear HO_3;clear HO301;clear HB;have HO_3 := n0_;have HO301 := n1_;have HB := n2_;clear n0_ n1_ n2_;(try clear hb);(try clear hb2);(try clear hk);(try clear hi))|((with_reducible refine gate_callee (f := 29) rfl ?_);refine goesL_ (some 68) rfl rfl Try.func29 (by kernel_rfl) rfl #[.slice Ao110 t290.length co110,.int .i64 301] rfl (by (try simp only [List.map_toArray,List.map_cons,List.map_nil]);first|done|rfl|(simp only [List.length_drop,List.length_take];rfl)) ?_;(with_reducible refine (posting_Seek.calls kj54 _ _ t290 301 t304 t305 _ ?side1 ?side2 A86.out).mono ?_);(case side1 => exact cM (Kd.R_reads' HO_3.out).2.2);(case side2 => exact (Kd.R_reads' HO_3.out).2.1);rintro e w113 ⟨rfl,hb⟩;refine ⟨_,rfl,?_⟩;have n0_ := Aside0.mk (Kd.R_below (rM HO_3.out) hb);have n1_ := Aside0.mk (Kd.R_below (rM HO301.out) hb);have n2_ := Aside0.mk (below_step (bM HB.out) hb);clear HO_3;clear HO301;clear HB;have HO_3 := n0_;have HO301 := n1_;have HB := n2_;clear n0_ n1_ n2_;(try clear hb);(try clear hb2);(try clear hk);(try clear hi))|((with_reducible refine gate_dst (N := 75) rfl ?_);(try (refine gate_guard (by rfl) ?_;dsimp only));refine Kd.R_lit (Kd.int .i64) _ 3 ?hg (N := 75) ?hd (xs := ([5,300] : List Int)) (inner := [.int .i64 5,.int .i64 300]) (ok := fun _ => True) (okp := fun _ => True) ?hr ?hp (fun _ hk => hk) trivial (Below.refl _ _) (Nat.le_refl _) (by simp) ?_;(case hd => rfl);(case hg => rfl);(case hr => first|(go_simp;done)|(go_simp;rfl));(case hp => exact (Reps.one (show Kd.M (Kd.int .i64) _ _ _ 5 [.int .i64 5] from rfl) (Reps.one (show Kd.M (Kd.int .i64) _ _ _ 300 [.int .i64 300] from rfl) (Reps.none _ _))));intro v307 w114 ho115 hb hg_ hnew_;clear hg_ hnew_;(first|rw [← Ny306.out] at ho115|(simp only [Int.reduceToNat] at ho115;rw [← Ny306.out] at ho115));have n0_ := Aside0.mk (Kd.R_below (rM HO_3.out) hb);have n1_ := Aside0.mk (Kd.R_elder' (rM HO301.out) (Kd.R_base ho115) hb);have n2_ := Aside0.mk (Kd.R_lower (Kd.R_new' ho115 (Kd.R_lt (rM HO301.out))) (below_size (bM HB.out)));have n3_ := Aside0.mk (below_step (bM HB.out) hb);clear HO_3;clear HO301;clear HB;have HO_3 := n0_;have HO301 := n1_;have HO308 := n2_;have HB := n3_;clear n0_ n1_ n2_ n3_;clear hb ho115;obtain ⟨Ao116,co116,eo116⟩ := Kd.R_slice HO301.out;subst eo116;obtain ⟨Ao117,co117,eo117⟩ := Kd.R_slice HO308.out;subst eo117)|(go_at_call 13;(with_reducible refine (codesearchref05_Same.calls kj54 _ _ t298 _ _ y306 true _ ?side1 ?side2 ?side3 ?side4 A88.out).mono ?_);(case side1 => exact cM (Kd.R_reads' HO301.out).2.2);(case side2 => exact (Kd.R_reads' HO301.out).2.1);(case side3 => exact cM (Kd.R_reads' HO308.out).2.2);(case side4 => exact (Kd.R_reads' HO308.out).2.1);rintro e w' ⟨rfl,⟨nd,rfl⟩⟩))
            go_ret
            exact ⟨by first|rfl|(simp [errW_none,errW_some] <;> rfl)|(simp [*,errW_none,errW_some] <;> rfl),bM HB.out⟩
          ·replace c90 := Bool.eq_false_iff.mpr c90
           subst c90
           have H1 : (some false) = some r := by rw [if_neg (show ¬ (false = true) by decide)] at H;exact H
           clear H
           have H := H1
           clear H1
           obtain rfl := Option.some.inj H
           obtain ⟨Ao118,co118,eo118⟩ := Kd.R_slice HO_3.out
           subst eo118
           go_wp2_with (first|((with_reducible refine gate_callee (f := 27) rfl ?_);refine goesL_ (some 58) rfl rfl Try.func27 (by kernel_rfl) rfl #[.slice Ao118 t290.length co118] rfl (by (try simp only [List.map_toArray,List.map_cons,List.map_nil]);first|done|rfl|(simp only [List.length_drop,List.length_take];rfl)) ?_;(with_reducible refine (posting_Unpack.calls kj54 _ _ t290 t298 t299 _ ?side1 ?side2 A84.out).mono ?_);(case side1 => exact cM (Kd.R_reads' HO_3.out).2.2);(case side2 => exact (Kd.R_reads' HO_3.out).2.1);rintro e w119 ⟨v300,rfl,ho0,hb⟩;refine ⟨_,rfl,?_⟩;have n0_ := Aside0.mk (Kd.R_below (rM HO_3.out) hb);have n1_ := Aside0.mk (Kd.R_lower ho0 (below_size (bM HB.out)));have n2_ := Aside0.mk (below_step (bM HB.out) hb);clear HO_3;clear HB;have HO_3 := n0_;have HO301 := n1_;have HB := n2_;clear n0_ n1_ n2_;(try clear hb);(try clear hb2);(try clear hk);(try clear hi);(try clear ho0))|((with_reducible refine gate_callee (f := 29) rfl ?_);refine goesL_ (some 63) rfl rfl Try.func29 (by kernel_rfl) rfl #[.slice Ao118 t290.length co118,.int .i64 6] rfl (by (try simp only [List.map_toArray,List.map_cons,List.map_nil]);first|done|rfl|(simp only [List.length_drop,List.length_take];rfl)) ?_;(with_reducible refine (posting_Seek.calls kj54 _ _ t290 6 t302 false _ ?side1 ?side2 A85.out).mono ?_);(case side1 => exact cM (Kd.R_reads' HO_3.out).2.2);(case side2 => exact (Kd.R_reads' HO_3.out).2.1);rintro e w120 ⟨rfl,hb⟩;refine ⟨_,rfl,?_⟩;have n0_ := Aside0.mk (Kd.R_below (rM HO_3.out) hb);have n1_ := Aside0.mk (Kd.R_below (rM HO301.out) hb);have n2_ := Aside0.mk (below_step (bM HB.out) hb);clear HO_3;clear HO301;clear HB;have HO_3 := n0_;have HO301 := n1_;have HB := n2_;clear n0_ n1_ n2_;(try clear hb);(try clear hb2);(try clear hk);(try clear hi))|((with_reducible refine gate_callee (f := 29) rfl ?_);refine goesL_ (some 68) rfl rfl Try.func29 (by kernel_rfl) rfl #[.slice Ao118 t290.length co118,.int .i64 301] rfl (by (try simp only [List.map_toArray,List.map_cons,List.map_nil]);first|done|rfl|(simp only [List.length_drop,List.length_take];rfl)) ?_;(with_reducible refine (posting_Seek.calls kj54 _ _ t290 301 t304 t305 _ ?side1 ?side2 A86.out).mono ?_);(case side1 => exact cM (Kd.R_reads' HO_3.out).2.2);(case side2 => exact (Kd.R_reads' HO_3.out).2.1);rintro e w121 ⟨rfl,hb⟩;refine ⟨_,rfl,?_⟩;have n0_ := Aside0.mk (Kd.R_below (rM HO_3.out) hb);have n1_ := Aside0.mk (Kd.R_below (rM HO301.out) hb);have n2_ := Aside0.mk (below_step (bM HB.out) hb);clear HO_3;clear HO301;clear HB;have HO_3 := n0_;have HO301 := n1_;have HB := n2_;clear n0_ n1_ n2_;(try clear hb);(try clear hb2);(try clear hk);(try clear hi))|((with_reducible refine gate_dst (N := 75) rfl ?_);(try (refine gate_guard (by rfl) ?_;dsimp only));refine Kd.R_lit (Kd.int .i64) _ 3 ?hg (N := 75) ?hd (xs := ([5,300] : List Int)) (inner := [.int .i64 5,.int .i64 300]) (ok := fun _ => True) (okp := fun _ => True) ?hr ?hp (fun _ hk => hk) trivial (Below.refl _ _) (Nat.le_refl _) (by simp) ?_;(case hd => rfl);(case hg => rfl);(case hr => first|(go_simp;done)|(go_simp;rfl));(case hp => exact (Reps.one (show Kd.M (Kd.int .i64) _ _ _ 5 [.int .i64 5] from rfl) (Reps.one (show Kd.M (Kd.int .i64) _ _ _ 300 [.int .i64 300] from rfl) (Reps.none _ _))));intro v307 w122 ho123 hb hg_ hnew_;clear hg_ hnew_;(first|rw [← Ny306.out] at ho123|(simp only [Int.reduceToNat] at ho123;rw [← Ny306.out] at ho123));have n0_ := Aside0.mk (Kd.R_below (rM HO_3.out) hb);have n1_ := Aside0.mk (Kd.R_elder' (rM HO301.out) (Kd.R_base ho123) hb);have n2_ := Aside0.mk (Kd.R_lower (Kd.R_new' ho123 (Kd.R_lt (rM HO301.out))) (below_size (bM HB.out)));have n3_ := Aside0.mk (below_step (bM HB.out) hb);clear HO_3;clear HO301;clear HB;have HO_3 := n0_;have HO301 := n1_;have HO308 := n2_;have HB := n3_;clear n0_ n1_ n2_ n3_;clear hb ho123;obtain ⟨Ao124,co124,eo124⟩ := Kd.R_slice HO301.out;subst eo124;obtain ⟨Ao125,co125,eo125⟩ := Kd.R_slice HO308.out;subst eo125)|(go_at_call 13;(with_reducible refine (codesearchref05_Same.calls kj54 _ _ t298 _ _ y306 true _ ?side1 ?side2 ?side3 ?side4 A88.out).mono ?_);(case side1 => exact cM (Kd.R_reads' HO301.out).2.2);(case side2 => exact (Kd.R_reads' HO301.out).2.1);(case side3 => exact cM (Kd.R_reads' HO308.out).2.2);(case side4 => exact (Kd.R_reads' HO308.out).2.1);rintro e w' ⟨rfl,⟨nd,rfl⟩⟩))
           go_ret
           exact ⟨by first|rfl|(simp [errW_none,errW_some] <;> rfl)|(simp [*,errW_none,errW_some] <;> rfl),bM HB.out⟩
         ·replace c89 := Bool.eq_false_iff.mpr c89
          subst c89
          have H1 : (some false) = some r := by rw [if_neg (show ¬ (false = true) by decide)] at H;exact H
          clear H
          have H := H1
          clear H1
          obtain rfl := Option.some.inj H
          obtain ⟨Ao126,co126,eo126⟩ := Kd.R_slice HO_3.out
          subst eo126
          go_wp2_with (first|((with_reducible refine gate_callee (f := 27) rfl ?_);refine goesL_ (some 58) rfl rfl Try.func27 (by kernel_rfl) rfl #[.slice Ao126 t290.length co126] rfl (by (try simp only [List.map_toArray,List.map_cons,List.map_nil]);first|done|rfl|(simp only [List.length_drop,List.length_take];rfl)) ?_;(with_reducible refine (posting_Unpack.calls kj54 _ _ t290 t298 t299 _ ?side1 ?side2 A84.out).mono ?_);(case side1 => exact cM (Kd.R_reads' HO_3.out).2.2);(case side2 => exact (Kd.R_reads' HO_3.out).2.1);rintro e w127 ⟨v300,rfl,ho0,hb⟩;refine ⟨_,rfl,?_⟩;have n0_ := Aside0.mk (Kd.R_below (rM HO_3.out) hb);have n1_ := Aside0.mk (Kd.R_lower ho0 (below_size (bM HB.out)));have n2_ := Aside0.mk (below_step (bM HB.out) hb);clear HO_3;clear HB;have HO_3 := n0_;have HO301 := n1_;have HB := n2_;clear n0_ n1_ n2_;(try clear hb);(try clear hb2);(try clear hk);(try clear hi);(try clear ho0))|((with_reducible refine gate_callee (f := 29) rfl ?_);refine goesL_ (some 63) rfl rfl Try.func29 (by kernel_rfl) rfl #[.slice Ao126 t290.length co126,.int .i64 6] rfl (by (try simp only [List.map_toArray,List.map_cons,List.map_nil]);first|done|rfl|(simp only [List.length_drop,List.length_take];rfl)) ?_;(with_reducible refine (posting_Seek.calls kj54 _ _ t290 6 t302 t303 _ ?side1 ?side2 A85.out).mono ?_);(case side1 => exact cM (Kd.R_reads' HO_3.out).2.2);(case side2 => exact (Kd.R_reads' HO_3.out).2.1);rintro e w128 ⟨rfl,hb⟩;refine ⟨_,rfl,?_⟩;have n0_ := Aside0.mk (Kd.R_below (rM HO_3.out) hb);have n1_ := Aside0.mk (Kd.R_below (rM HO301.out) hb);have n2_ := Aside0.mk (below_step (bM HB.out) hb);clear HO_3;clear HO301;clear HB;have HO_3 := n0_;have HO301 := n1_;have HB := n2_;clear n0_ n1_ n2_;(try clear hb);(try clear hb2);(try clear hk);(try clear hi))|((with_reducible refine gate_callee (f := 29) rfl ?_);refine goesL_ (some 68) rfl rfl Try.func29 (by kernel_rfl) rfl #[.slice Ao126 t290.length co126,.int .i64 301] rfl (by (try simp only [List.map_toArray,List.map_cons,List.map_nil]);first|done|rfl|(simp only [List.length_drop,List.length_take];rfl)) ?_;(with_reducible refine (posting_Seek.calls kj54 _ _ t290 301 t304 t305 _ ?side1 ?side2 A86.out).mono ?_);(case side1 => exact cM (Kd.R_reads' HO_3.out).2.2);(case side2 => exact (Kd.R_reads' HO_3.out).2.1);rintro e w129 ⟨rfl,hb⟩;refine ⟨_,rfl,?_⟩;have n0_ := Aside0.mk (Kd.R_below (rM HO_3.out) hb);have n1_ := Aside0.mk (Kd.R_below (rM HO301.out) hb);have n2_ := Aside0.mk (below_step (bM HB.out) hb);clear HO_3;clear HO301;clear HB;have HO_3 := n0_;have HO301 := n1_;have HB := n2_;clear n0_ n1_ n2_;(try clear hb);(try clear hb2);(try clear hk);(try clear hi))|((with_reducible refine gate_dst (N := 75) rfl ?_);(try (refine gate_guard (by rfl) ?_;dsimp only));refine Kd.R_lit (Kd.int .i64) _ 3 ?hg (N := 75) ?hd (xs := ([5,300] : List Int)) (inner := [.int .i64 5,.int .i64 300]) (ok := fun _ => True) (okp := fun _ => True) ?hr ?hp (fun _ hk => hk) trivial (Below.refl _ _) (Nat.le_refl _) (by simp) ?_;(case hd => rfl);(case hg => rfl);(case hr => first|(go_simp;done)|(go_simp;rfl));(case hp => exact (Reps.one (show Kd.M (Kd.int .i64) _ _ _ 5 [.int .i64 5] from rfl) (Reps.one (show Kd.M (Kd.int .i64) _ _ _ 300 [.int .i64 300] from rfl) (Reps.none _ _))));intro v307 w130 ho131 hb hg_ hnew_;clear hg_ hnew_;(first|rw [← Ny306.out] at ho131|(simp only [Int.reduceToNat] at ho131;rw [← Ny306.out] at ho131));have n0_ := Aside0.mk (Kd.R_below (rM HO_3.out) hb);have n1_ := Aside0.mk (Kd.R_elder' (rM HO301.out) (Kd.R_base ho131) hb);have n2_ := Aside0.mk (Kd.R_lower (Kd.R_new' ho131 (Kd.R_lt (rM HO301.out))) (below_size (bM HB.out)));have n3_ := Aside0.mk (below_step (bM HB.out) hb);clear HO_3;clear HO301;clear HB;have HO_3 := n0_;have HO301 := n1_;have HO308 := n2_;have HB := n3_;clear n0_ n1_ n2_ n3_;clear hb ho131;obtain ⟨Ao132,co132,eo132⟩ := Kd.R_slice HO301.out;subst eo132;obtain ⟨Ao133,co133,eo133⟩ := Kd.R_slice HO308.out;subst eo133)|(go_at_call 13;(with_reducible refine (codesearchref05_Same.calls kj54 _ _ t298 _ _ y306 false _ ?side1 ?side2 ?side3 ?side4 A88.out).mono ?_);(case side1 => exact cM (Kd.R_reads' HO301.out).2.2);(case side2 => exact (Kd.R_reads' HO301.out).2.1);(case side3 => exact cM (Kd.R_reads' HO308.out).2.2);(case side4 => exact (Kd.R_reads' HO308.out).2.1);rintro e w' ⟨rfl,⟨nd,rfl⟩⟩))
          go_ret
          exact ⟨by first|rfl|(simp [errW_none,errW_some] <;> rfl)|(simp [*,errW_none,errW_some] <;> rfl),bM HB.out⟩
        ·rw [if_neg c87] at H
         have c87b0 : (t299 == 0) = false := beq_eq_false_iff_ne.mpr c87
         have c87b1 : (t299 != 0) = true := bne_iff_ne.mpr c87
         obtain rfl := Option.some.inj H
         obtain ⟨Ao134,co134,eo134⟩ := Kd.R_slice HO_3.out
         subst eo134
         go_wp2_with (first|((with_reducible refine gate_callee (f := 27) rfl ?_);refine goesL_ (some 58) rfl rfl Try.func27 (by kernel_rfl) rfl #[.slice Ao134 t290.length co134] rfl (by (try simp only [List.map_toArray,List.map_cons,List.map_nil]);first|done|rfl|(simp only [List.length_drop,List.length_take];rfl)) ?_;(with_reducible refine (posting_Unpack.calls kj54 _ _ t290 t298 t299 _ ?side1 ?side2 A84.out).mono ?_);(case side1 => exact cM (Kd.R_reads' HO_3.out).2.2);(case side2 => exact (Kd.R_reads' HO_3.out).2.1);rintro e w135 ⟨v300,rfl,ho0,hb⟩;refine ⟨_,rfl,?_⟩;have n0_ := Aside0.mk (Kd.R_below (rM HO_3.out) hb);have n1_ := Aside0.mk (Kd.R_lower ho0 (below_size (bM HB.out)));have n2_ := Aside0.mk (below_step (bM HB.out) hb);clear HO_3;clear HB;have HO_3 := n0_;have HO301 := n1_;have HB := n2_;clear n0_ n1_ n2_;(try clear hb);(try clear hb2);(try clear hk);(try clear hi);(try clear ho0))|((with_reducible refine gate_callee (f := 29) rfl ?_);refine goesL_ (some 63) rfl rfl Try.func29 (by kernel_rfl) rfl #[.slice Ao134 t290.length co134,.int .i64 6] rfl (by (try simp only [List.map_toArray,List.map_cons,List.map_nil]);first|done|rfl|(simp only [List.length_drop,List.length_take];rfl)) ?_;(with_reducible refine (posting_Seek.calls kj54 _ _ t290 6 t302 t303 _ ?side1 ?side2 A85.out).mono ?_);(case side1 => exact cM (Kd.R_reads' HO_3.out).2.2);(case side2 => exact (Kd.R_reads' HO_3.out).2.1);rintro e w136 ⟨rfl,hb⟩;refine ⟨_,rfl,?_⟩;have n0_ := Aside0.mk (Kd.R_below (rM HO_3.out) hb);have n1_ := Aside0.mk (Kd.R_below (rM HO301.out) hb);have n2_ := Aside0.mk (below_step (bM HB.out) hb);clear HO_3;clear HO301;clear HB;have HO_3 := n0_;have HO301 := n1_;have HB := n2_;clear n0_ n1_ n2_;(try clear hb);(try clear hb2);(try clear hk);(try clear hi))|((with_reducible refine gate_callee (f := 29) rfl ?_);refine goesL_ (some 68) rfl rfl Try.func29 (by kernel_rfl) rfl #[.slice Ao134 t290.length co134,.int .i64 301] rfl (by (try simp only [List.map_toArray,List.map_cons,List.map_nil]);first|done|rfl|(simp only [List.length_drop,List.length_take];rfl)) ?_;(with_reducible refine (posting_Seek.calls kj54 _ _ t290 301 t304 t305 _ ?side1 ?side2 A86.out).mono ?_);(case side1 => exact cM (Kd.R_reads' HO_3.out).2.2);(case side2 => exact (Kd.R_reads' HO_3.out).2.1);rintro e w137 ⟨rfl,hb⟩;refine ⟨_,rfl,?_⟩;have n0_ := Aside0.mk (Kd.R_below (rM HO_3.out) hb);have n1_ := Aside0.mk (Kd.R_below (rM HO301.out) hb);have n2_ := Aside0.mk (below_step (bM HB.out) hb);clear HO_3;clear HO301;clear HB;have HO_3 := n0_;have HO301 := n1_;have HB := n2_;clear n0_ n1_ n2_;(try clear hb);(try clear hb2);(try clear hk);(try clear hi)))
         go_ret
         exact ⟨by first|rfl|(simp [errW_none,errW_some] <;> rfl)|(simp [*,errW_none,errW_some] <;> rfl),bM HB.out⟩
    ·replace c53 := Bool.eq_false_iff.mpr c53
     subst c53
     have H1 : (some false) = some r := by rw [if_neg (show ¬ (false = true) by decide)] at H;exact H
     clear H
     have H := H1
     clear H1
     obtain rfl := Option.some.inj H
     go_wp2_with (first|((with_reducible refine gate_dst (N := 35) rfl ?_);(try (refine gate_guard (by rfl) ?_;dsimp only));refine Kd.R_lit (Kd.int .i64) _ 3 ?hg (N := 35) ?hd (xs := ([1,2] : List Int)) (inner := [.int .i64 1,.int .i64 2]) (ok := fun _ => True) (okp := fun _ => True) ?hr ?hp (fun _ hk => hk) trivial (Below.refl _ _) (Nat.le_refl _) (by simp) ?_;(case hd => rfl);(case hg => rfl);(case hr => first|(go_simp;done)|(go_simp;rfl));(case hp => exact (Reps.one (show Kd.M (Kd.int .i64) _ _ _ 1 [.int .i64 1] from rfl) (Reps.one (show Kd.M (Kd.int .i64) _ _ _ 2 [.int .i64 2] from rfl) (Reps.none _ _))));intro v269 w138 ho139 hb hg_ hnew_;clear hg_ hnew_;(first|rw [← Ny268.out] at ho139|(simp only [Int.reduceToNat] at ho139;rw [← Ny268.out] at ho139));have n0_ := Aside0.mk (Kd.R_lower ho139 (below_size (bM HB.out)));have n1_ := Aside0.mk (below_step (bM HB.out) hb);clear HB;have HO270 := n0_;have HB := n1_;clear n0_ n1_;clear hb ho139)|((with_reducible refine gate_dst (N := 36) rfl ?_);(try (refine gate_guard (by rfl) ?_;dsimp only));refine Kd.R_lit (Kd.int .i64) _ 3 ?hg (N := 36) ?hd (xs := ([2,2] : List Int)) (inner := [.int .i64 2,.int .i64 2]) (ok := fun _ => True) (okp := fun _ => True) ?hr ?hp (fun _ hk => hk) trivial (Below.refl _ _) (Nat.le_refl _) (by simp) ?_;(case hd => rfl);(case hg => rfl);(case hr => first|(go_simp;done)|(go_simp;rfl));(case hp => exact (Reps.one (show Kd.M (Kd.int .i64) _ _ _ 2 [.int .i64 2] from rfl) (Reps.one (show Kd.M (Kd.int .i64) _ _ _ 2 [.int .i64 2] from rfl) (Reps.none _ _))));intro v272 w140 ho141 hb hg_ hnew_;clear hg_ hnew_;(first|rw [← Ny271.out] at ho141|(simp only [Int.reduceToNat] at ho141;rw [← Ny271.out] at ho141));have n0_ := Aside0.mk (Kd.R_elder' (rM HO270.out) (Kd.R_base ho141) hb);have n1_ := Aside0.mk (Kd.R_lower (Kd.R_new' ho141 (Kd.R_lt (rM HO270.out))) (below_size (bM HB.out)));have n2_ := Aside0.mk (below_step (bM HB.out) hb);clear HO270;clear HB;have HO270 := n0_;have HO273 := n1_;have HB := n2_;clear n0_ n1_ n2_;clear hb ho141)|((with_reducible refine gate_dst (N := 37) rfl ?_);(try (refine gate_guard (by rfl) ?_;dsimp only));refine Kd.R_lit (Kd.int .i64) _ 3 ?hg (N := 37) ?hd (xs := ([1] : List Int)) (inner := [.int .i64 1]) (ok := fun _ => True) (okp := fun _ => True) ?hr ?hp (fun _ hk => hk) trivial (Below.refl _ _) (Nat.le_refl _) (by simp) ?_;(case hd => rfl);(case hg => rfl);(case hr => first|(go_simp;done)|(go_simp;rfl));(case hp => exact (Reps.one (show Kd.M (Kd.int .i64) _ _ _ 1 [.int .i64 1] from rfl) (Reps.none _ _)));intro v275 w142 ho143 hb hg_ hnew_;clear hg_ hnew_;(first|rw [← Ny274.out] at ho143|(simp only [Int.reduceToNat] at ho143;rw [← Ny274.out] at ho143));have n0_ := Aside0.mk (Kd.R_elder' (rM HO270.out) (Kd.R_base ho143) hb);have n1_ := Aside0.mk (Kd.R_elder' (rM HO273.out) (Kd.R_base ho143) hb);have n2_ := Aside0.mk (Kd.R_lower (Kd.R_new' (Kd.R_new' ho143 (Kd.R_lt (rM HO270.out))) (Kd.R_lt (rM HO273.out))) (below_size (bM HB.out)));have n3_ := Aside0.mk (below_step (bM HB.out) hb);clear HO270;clear HO273;clear HB;have HO270 := n0_;have HO273 := n1_;have HO276 := n2_;have HB := n3_;clear n0_ n1_ n2_ n3_;clear hb ho143;obtain ⟨Ao144,co144,eo144⟩ := Kd.R_slice HO270.out;subst eo144;obtain ⟨Ao145,co145,eo145⟩ := Kd.R_slice HO273.out;subst eo145;obtain ⟨Ao146,co146,eo146⟩ := Kd.R_slice HO276.out;subst eo146)|((with_reducible refine gate_dst (N := 38) rfl ?_);(try (refine gate_guard (by rfl) ?_;dsimp only));refine Kd.N_lit (Kd.slice 3 (Kd.int .i64)) _ 22 ?hg (N' := 38) ?hd (xs := ([y268,y271,y274] : List (List Int))) (inner := [.slice Ao144 y268.length co144,.slice Ao145 y271.length co145,.slice Ao146 y274.length co146]) (ok := (fun _ => True)) (okp := (fun _ => True)) ?hr ?hp (fun _ hk => hk) ((show ∀ k_,w142.heap.size ≤ k_ → (fun _ => True) k_ from fun k_ hk => trivial) _ (Nat.le_refl _)) (Below.refl _ _) (Nat.le_refl _) (by simp) ?_;(case hd => rfl);(case hg => rfl);(case hr => first|(go_simp;done)|(go_simp;rfl));(case hp => exact (Reps.one (show Kd.FK (Kd.slice 3 (Kd.int .i64)) _ _ y268 [.slice Ao144 y268.length co144] from (Kd.FK_slice_mk (Kd.R_reads' (Kd.R_mono (ok' := (fun _ => True)) (HO270.out) (fun k_ hk => trivial))).2.1 (Kd.R_F (Kd.R_mono (ok' := (fun _ => True)) (HO270.out) (fun k_ hk => trivial))))) (Reps.one (show Kd.FK (Kd.slice 3 (Kd.int .i64)) _ _ y271 [.slice Ao145 y271.length co145] from (Kd.FK_slice_mk (Kd.R_reads' (Kd.R_mono (ok' := (fun _ => True)) (HO273.out) (fun k_ hk => trivial))).2.1 (Kd.R_F (Kd.R_mono (ok' := (fun _ => True)) (HO273.out) (fun k_ hk => trivial))))) (Reps.one (show Kd.FK (Kd.slice 3 (Kd.int .i64)) _ _ y274 [.slice Ao146 y274.length co146] from (Kd.FK_slice_mk (Kd.R_reads' (Kd.R_mono (ok' := (fun _ => True)) (HO276.out) (fun k_ hk => trivial))).2.1 (Kd.R_F (Kd.R_mono (ok' := (fun _ => True)) (HO276.out) (fun k_ hk => trivial))))) (Reps.none _ _)))));intro v278 w147 ho148 hb hg_ hnew_;clear hg_ hnew_;(first|rw [← Ny277.out] at ho148|(simp only [Int.reduceToNat] at ho148;rw [← Ny277.out] at ho148));have n0_ := Aside0.mk (Kd.N_lower ho148 (below_size (bM HB.out)));have n1_ := Aside0.mk (below_step (bM HB.out) hb);clear HB;clear HO270;clear HO273;clear HO276;have HO279 := n0_;have HB := n1_;clear n0_ n1_;clear hb ho148;obtain ⟨Ao149,co149,eo149⟩ := Kd.N_slice HO279.out;subst eo149)|((with_reducible refine gate_callee (f := 20) rfl ?_);refine goesL_ (some 39) rfl rfl Try.func20 (by kernel_rfl) rfl #[.int .i64 2,.slice Ao149 y277.length co149] rfl (by (try simp only [List.map_toArray,List.map_cons,List.map_nil]);first|done|rfl|(simp only [List.length_drop,List.length_take];rfl)) ?_;(with_reducible refine (posting_AtLeast.calls kj0 2 _ _ y277 t280 _ ?side1 ?side2 A51.out).mono ?_);(case side1 => repeat (first|exact (Kd.N_reads' HO279.out).2.2|(with_reducible refine Kd.C_alloc ?_ _)|(with_reducible refine Kd.C_drewN ?_ _)|(with_reducible refine Kd.C_drew ?_)));(case side2 => exact (Kd.N_reads' HO279.out).2.1);rintro e w150 ⟨v281,rfl,ho0,hb⟩;refine ⟨_,rfl,?_⟩;have n0_ := Aside0.mk (Kd.N_elder' (by (with_reducible repeat (first|apply Kd.N_alloc|apply Kd.N_drewN|apply Kd.N_drew));exact HO279.out) (Kd.R_base ho0) hb);have n1_ := Aside0.mk (Kd.R_lower ho0 (below_size (bM HB.out)));have n2_ := Aside0.mk (below_step (bM HB.out) hb);clear HO279;clear HB;have HO279 := n0_;have HO282 := n1_;have HB := n2_;clear n0_ n1_ n2_;(try clear hb);(try clear hb2);(try clear hk);(try clear hi);(try clear ho0))|((with_reducible refine gate_dst (N := 40) rfl ?_);(try (refine gate_guard (by rfl) ?_;dsimp only));refine Kd.R_lit (Kd.int .i64) _ 3 ?hg (N := 40) ?hd (xs := ([1,2] : List Int)) (inner := [.int .i64 1,.int .i64 2]) (ok := fun _ => True) (okp := fun _ => True) ?hr ?hp (fun _ hk => hk) trivial (Below.refl _ _) (Nat.le_refl _) (by simp) ?_;(case hd => rfl);(case hg => rfl);(case hr => first|(go_simp;done)|(go_simp;rfl));(case hp => exact (Reps.one (show Kd.M (Kd.int .i64) _ _ _ 1 [.int .i64 1] from rfl) (Reps.one (show Kd.M (Kd.int .i64) _ _ _ 2 [.int .i64 2] from rfl) (Reps.none _ _))));intro v284 w151 ho152 hb hg_ hnew_;clear hg_ hnew_;(first|rw [← Ny283.out] at ho152|(simp only [Int.reduceToNat] at ho152;rw [← Ny283.out] at ho152));have n0_ := Aside0.mk (Kd.N_elder' (by (with_reducible repeat (first|apply Kd.N_alloc|apply Kd.N_drewN|apply Kd.N_drew));exact HO279.out) (Kd.R_base ho152) hb);have n1_ := Aside0.mk (Kd.R_elder' (rM HO282.out) (Kd.R_base ho152) hb);have n2_ := Aside0.mk (Kd.R_lower (Kd.R_new' ho152 (Kd.R_lt (rM HO282.out))) (below_size (bM HB.out)));have n3_ := Aside0.mk (below_step (bM HB.out) hb);clear HO279;clear HO282;clear HB;have HO279 := n0_;have HO282 := n1_;have HO285 := n2_;have HB := n3_;clear n0_ n1_ n2_ n3_;clear hb ho152;obtain ⟨Ao153,co153,eo153⟩ := Kd.R_slice HO282.out;subst eo153;obtain ⟨Ao154,co154,eo154⟩ := Kd.R_slice HO285.out;subst eo154)|((with_reducible refine gate_callee (f := 13) rfl ?_);refine goesL_ (some 41) rfl rfl Try.func13 (by kernel_rfl) rfl #[.slice Ao153 t280.length co153,.slice Ao154 y283.length co154] rfl (by (try simp only [List.map_toArray,List.map_cons,List.map_nil]);first|done|rfl|(simp only [List.length_drop,List.length_take];rfl)) ?_;(with_reducible refine (codesearchref05_Same.calls kj0 _ _ t280 _ _ y283 false _ ?side1 ?side2 ?side3 ?side4 A52.out).mono ?_);(case side1 => exact cM (Kd.R_reads' HO282.out).2.2);(case side2 => exact (Kd.R_reads' HO282.out).2.1);(case side3 => exact cM (Kd.R_reads' HO285.out).2.2);(case side4 => exact (Kd.R_reads' HO285.out).2.1);rintro e w' ⟨rfl,⟨nd,rfl⟩⟩;refine ⟨_,rfl,?_⟩))
     go_ret
     exact ⟨by first|rfl|(simp [errW_none,errW_some] <;> rfl)|(simp [*,errW_none,errW_some] <;> rfl),bM HB.out⟩

/-! ### codesearchref05_Valid: function 12 -/
def codesearchref05_Valid.l0 : Nat → List Int → Int → Option (Bool)
|0,_,_ => none
|k + 1,x0,x3 => if x3 < (x0.length : Int) then (if 0 ≤ x3 then (if (rd x0 x3) < 0 then (some false) else (if (rd x0 x3) > 9999 then (some false) else (if x3 > 0 then (if 0 ≤ (wrap64 (x3 - 1)) then (if (wrap64 (x3 - 1)) < (x0.length : Int) then (if (rd x0 x3) ≤ (rd x0 (wrap64 (x3 - 1))) then (some false) else (codesearchref05_Valid.l0 k x0 (wrap64 (x3 + 1)))) else (none)) else (none)) else (codesearchref05_Valid.l0 k x0 (wrap64 (x3 + 1)))))) else (none)) else (some true)
def codesearchref05_Valid.f (k : Nat) (l0 : List Int) : Option (Bool) := codesearchref05_Valid.l0 k l0 0
theorem codesearchref05_Valid.mono_l : ∀ k, (∀ y0 y1, LeO (codesearchref05_Valid.l0 k y0 y1) (codesearchref05_Valid.l0 (k + 1) y0 y1))
|0 => fun _ _ r h => by simp [codesearchref05_Valid.l0] at h
|k + 1 => by
  have ih0 := codesearchref05_Valid.mono_l k
  ·intro y0 y1
   unfold codesearchref05_Valid.l0
   repeat' first
  |(with_reducible exact ih0 _ _)
  |(with_reducible exact LeO.refl _)
  |(with_reducible exact LeO.none _)
  |(with_reducible refine LeO.ite ?_ ?_)
  |(with_reducible refine LeO.bind ?_ (fun _ => ?_))
  |exact ih0 _ _
  |exact LeO.none _
  |refine LeO.ite ?_ ?_
  |refine LeO.bind ?_ (fun _ => ?_)
theorem codesearchref05_Valid.mono : ∀ a0 k, LeO (codesearchref05_Valid.f k a0) (codesearchref05_Valid.f (k + 1) a0) := by
 intro a0 k
 have ih0 := codesearchref05_Valid.mono_l k
 unfold codesearchref05_Valid.f
 repeat' first
  |(with_reducible exact ih0 _ _)
  |(with_reducible exact LeO.refl _)
  |(with_reducible exact LeO.none _)
  |(with_reducible refine LeO.ite ?_ ?_)
  |(with_reducible refine LeO.bind ?_ (fun _ => ?_))
  |exact ih0 _ _
  |exact LeO.none _
  |refine LeO.ite ?_ ?_
  |refine LeO.bind ?_ (fun _ => ?_)
set_option maxHeartbeats 4000000 in
set_option maxRecDepth 100000 in
theorem codesearchref05_Valid.calls (k : Nat) (A0 : Option Addr) (c0 : Nat) (l0 : List Int) (r : Bool) (w : World) (hr0 : Kd.C (Kd.int .i64) w A0 l0.length l0) (hc0 : l0.length ≤ c0) (h : codesearchref05_Valid.f k l0 = some r) :
  Calls Try.prog 12 #[.slice A0 l0.length c0] w fun e w' => e = .returned (.bool r) ∧ Drawn0 w w' := by
 have HR0 := Aside0.mk hr0
 have HC0 := Aside0.mk hc0
 clear hr0 hc0
 have H : (codesearchref05_Valid.l0 k l0 0) = some r := h
 clear h
 have H' := Aside0.mk H
 clear H
 go_enter Try.func12,Try.ntmps12
 go_wp2
 repeat (go_quiet (fail);try go_wp2)
 go_loopg [3] k (fun kq v3 w' => ∃ (x3_1 : Int),v3 = .int .i64 x3_1 ∧ Aside0 (codesearchref05_Valid.l0 kq l0 x3_1 = some r) ∧ Aside0 (kq ≤ k) ∧ Drawn0 w w')
 case atStart => exact ⟨(0),(by first|rfl|(simp;done)|(simp [*];done)),H',⟨Nat.le_refl _⟩,by repeat (first|exact Drawn0.refl _|apply Drawn0.step)⟩
 case round =>
  clear H'
  try clear c1
  obtain ⟨x3_1,rfl,HA,HK1,⟨m1,rfl⟩⟩ := hrel
  cases gk with
 |zero => exact absurd HA.out (by simp [codesearchref05_Valid.l0])
 |succ k1 =>
   have H := HA.out
   clear HA
   simp only [codesearchref05_Valid.l0] at H
   by_cases c2 : x3_1 < (l0.length : Int)
   ·rw [if_pos c2] at H
    have c2b0 : decide (x3_1 < (l0.length : Int)) = true := decide_eq_true c2
    clear c2
    by_cases c3 : 0 ≤ x3_1
    ·rw [if_pos c3] at H
     have c3b0 : decide (0 ≤ x3_1) = true := decide_eq_true c3
     clear c3
     by_cases c4 : (rd l0 x3_1) < 0
     ·rw [if_pos c4] at H
      have c4b0 : decide ((rd l0 x3_1) < 0) = true := decide_eq_true c4
      clear c4
      obtain rfl := Option.some.inj H
      have p311 : 0 ≤ (x3_1 : Int) := of_decide_eq_true (by first|(with_reducible assumption)|assumption)
      have q311 : x3_1 < (l0.length : Int) := of_decide_eq_true (by first|(with_reducible assumption)|assumption)
      obtain ⟨ad311,e311,hx311_0⟩ := Kd.at_int HR0.out x3_1 p311 q311
      cases e311
      replace p311 := eq_true p311
      replace q311 := eq_true q311
      go_wp2
      repeat (go_quiet (fail);try go_wp2)
      go_ret
      exact ⟨by first|rfl|(simp;done)|(simp [*];done),by repeat (first|exact Drawn0.refl _|apply Drawn0.step)⟩
     ·rw [if_neg c4] at H
      have c4b0 : decide ((rd l0 x3_1) < 0) = false := decide_eq_false c4
      clear c4
      by_cases c5 : (rd l0 x3_1) > 9999
      ·rw [if_pos c5] at H
       have c5b0 : decide (9999 < (rd l0 x3_1)) = true := decide_eq_true c5
       clear c5
       obtain rfl := Option.some.inj H
       have p311 : 0 ≤ (x3_1 : Int) := of_decide_eq_true (by first|(with_reducible assumption)|assumption)
       have q311 : x3_1 < (l0.length : Int) := of_decide_eq_true (by first|(with_reducible assumption)|assumption)
       obtain ⟨ad311,e311,hx311_0⟩ := Kd.at_int HR0.out x3_1 p311 q311
       cases e311
       replace p311 := eq_true p311
       replace q311 := eq_true q311
       have p312 : 0 ≤ (x3_1 : Int) := of_decide_eq_true (by first|(with_reducible assumption)|assumption)
       have q312 : x3_1 < (l0.length : Int) := of_decide_eq_true (by first|(with_reducible assumption)|assumption)
       obtain ⟨ad312,e312,hx312_0⟩ := Kd.at_int HR0.out x3_1 p312 q312
       obtain rfl : ad311 = ad312 := (by injection e312)
       replace p312 := eq_true p312
       replace q312 := eq_true q312
       go_wp2
       repeat (go_quiet (fail);try go_wp2)
       go_ret
       exact ⟨by first|rfl|(simp;done)|(simp [*];done),by repeat (first|exact Drawn0.refl _|apply Drawn0.step)⟩
      ·rw [if_neg c5] at H
       have c5b0 : decide (9999 < (rd l0 x3_1)) = false := decide_eq_false c5
       clear c5
       by_cases c6 : x3_1 > 0
       ·rw [if_pos c6] at H
        have c6b0 : decide (0 < x3_1) = true := decide_eq_true c6
        clear c6
        obtain ⟨ji7,hji7⟩ : ∃ j_ : Int,(wrap64 (x3_1 - 1)) = j_ := ⟨_,rfl⟩
        replace H : (if 0 ≤ (ji7) then (if (ji7) < (l0.length : Int) then (if (rd l0 x3_1) ≤ (rd l0 (ji7)) then (some false) else (codesearchref05_Valid.l0 k1 l0 (wrap64 (x3_1 + 1)))) else (none)) else (none)) = some r := by first|(rw [hji7] at H;exact H)|(simp only [hji7] at H ⊢;exact H)
        have hji7w : (IntKind.i64.wrap (x3_1 - 1)) = ji7 := (i64_w _).trans hji7
        by_cases c8 : 0 ≤ (ji7)
        ·rw [if_pos c8] at H
         have c8b0 : decide (0 ≤ (ji7)) = true := decide_eq_true c8
         clear c8
         by_cases c9 : (ji7) < (l0.length : Int)
         ·rw [if_pos c9] at H
          have c9b0 : decide ((ji7) < (l0.length : Int)) = true := decide_eq_true c9
          clear c9
          by_cases c10 : (rd l0 x3_1) ≤ (rd l0 (ji7))
          ·rw [if_pos c10] at H
           have c10b0 : decide ((rd l0 x3_1) ≤ (rd l0 (ji7))) = true := decide_eq_true c10
           clear c10
           obtain rfl := Option.some.inj H
           have p311 : 0 ≤ (x3_1 : Int) := of_decide_eq_true (by first|(with_reducible assumption)|assumption)
           have q311 : x3_1 < (l0.length : Int) := of_decide_eq_true (by first|(with_reducible assumption)|assumption)
           obtain ⟨ad311,e311,hx311_0⟩ := Kd.at_int HR0.out x3_1 p311 q311
           cases e311
           replace p311 := eq_true p311
           replace q311 := eq_true q311
           have p312 : 0 ≤ (x3_1 : Int) := of_decide_eq_true (by first|(with_reducible assumption)|assumption)
           have q312 : x3_1 < (l0.length : Int) := of_decide_eq_true (by first|(with_reducible assumption)|assumption)
           obtain ⟨ad312,e312,hx312_0⟩ := Kd.at_int HR0.out x3_1 p312 q312
           obtain rfl : ad311 = ad312 := (by injection e312)
           replace p312 := eq_true p312
           replace q312 := eq_true q312
           have p313 : 0 ≤ (x3_1 : Int) := of_decide_eq_true (by first|(with_reducible assumption)|assumption)
           have q313 : x3_1 < (l0.length : Int) := of_decide_eq_true (by first|(with_reducible assumption)|assumption)
           obtain ⟨ad313,e313,hx313_0⟩ := Kd.at_int HR0.out x3_1 p313 q313
           obtain rfl : ad311 = ad313 := (by injection e313)
           replace p313 := eq_true p313
           replace q313 := eq_true q313
           have p314 : 0 ≤ ((ji7) : Int) := of_decide_eq_true (by first|(with_reducible assumption)|assumption)
           have q314 : (ji7) < (l0.length : Int) := of_decide_eq_true (by first|(with_reducible assumption)|assumption)
           obtain ⟨ad314,e314,hx314_0⟩ := Kd.at_int HR0.out (ji7) p314 q314
           obtain rfl : ad311 = ad314 := (by injection e314)
           replace p314 := eq_true p314
           replace q314 := eq_true q314
           go_wp2
           repeat (go_quiet (fail);try go_wp2)
           go_ret
           exact ⟨by first|rfl|(simp;done)|(rw [Int.tdiv_eq_ediv_of_nonneg (by assumption)];done)|(rw [Int.tmod_eq_emod_of_nonneg (by assumption)];done)|(simp only [← hji7] <;> (first|rfl|simp))|(simp [*];done),by repeat (first|exact Drawn0.refl _|apply Drawn0.step)⟩
          ·rw [if_neg c10] at H
           have c10b0 : decide ((rd l0 x3_1) ≤ (rd l0 (ji7))) = false := decide_eq_false c10
           clear c10
           have H' := Aside0.mk H
           clear H
           have p311 : 0 ≤ (x3_1 : Int) := of_decide_eq_true (by first|(with_reducible assumption)|assumption)
           have q311 : x3_1 < (l0.length : Int) := of_decide_eq_true (by first|(with_reducible assumption)|assumption)
           obtain ⟨ad311,e311,hx311_0⟩ := Kd.at_int HR0.out x3_1 p311 q311
           cases e311
           replace p311 := eq_true p311
           replace q311 := eq_true q311
           have p312 : 0 ≤ (x3_1 : Int) := of_decide_eq_true (by first|(with_reducible assumption)|assumption)
           have q312 : x3_1 < (l0.length : Int) := of_decide_eq_true (by first|(with_reducible assumption)|assumption)
           obtain ⟨ad312,e312,hx312_0⟩ := Kd.at_int HR0.out x3_1 p312 q312
           obtain rfl : ad311 = ad312 := (by injection e312)
           replace p312 := eq_true p312
           replace q312 := eq_true q312
           have p313 : 0 ≤ (x3_1 : Int) := of_decide_eq_true (by first|(with_reducible assumption)|assumption)
           have q313 : x3_1 < (l0.length : Int) := of_decide_eq_true (by first|(with_reducible assumption)|assumption)
           obtain ⟨ad313,e313,hx313_0⟩ := Kd.at_int HR0.out x3_1 p313 q313
           obtain rfl : ad311 = ad313 := (by injection e313)
           replace p313 := eq_true p313
           replace q313 := eq_true q313
           have p314 : 0 ≤ ((ji7) : Int) := of_decide_eq_true (by first|(with_reducible assumption)|assumption)
           have q314 : (ji7) < (l0.length : Int) := of_decide_eq_true (by first|(with_reducible assumption)|assumption)
           obtain ⟨ad314,e314,hx314_0⟩ := Kd.at_int HR0.out (ji7) p314 q314
           obtain rfl : ad311 = ad314 := (by injection e314)
           replace p314 := eq_true p314
           replace q314 := eq_true q314
           go_wp2
           repeat (go_quiet (fail);try go_wp2)
           go_roundg k1
           case measure => have := HK1.out;omega
           case rel => exact ⟨(wrap64 (x3_1 + 1)),(by first|rfl|(simp;done)|(simp [*];done)),H',⟨by have := HK1.out;omega⟩,by repeat (first|exact Drawn0.refl _|apply Drawn0.step)⟩
         ·rw [if_neg c9] at H
          exact absurd H (by simp)
        ·rw [if_neg c8] at H
         exact absurd H (by simp)
       ·rw [if_neg c6] at H
        have c6b0 : decide (0 < x3_1) = false := decide_eq_false c6
        clear c6
        have H' := Aside0.mk H
        clear H
        have p311 : 0 ≤ (x3_1 : Int) := of_decide_eq_true (by first|(with_reducible assumption)|assumption)
        have q311 : x3_1 < (l0.length : Int) := of_decide_eq_true (by first|(with_reducible assumption)|assumption)
        obtain ⟨ad311,e311,hx311_0⟩ := Kd.at_int HR0.out x3_1 p311 q311
        cases e311
        replace p311 := eq_true p311
        replace q311 := eq_true q311
        have p312 : 0 ≤ (x3_1 : Int) := of_decide_eq_true (by first|(with_reducible assumption)|assumption)
        have q312 : x3_1 < (l0.length : Int) := of_decide_eq_true (by first|(with_reducible assumption)|assumption)
        obtain ⟨ad312,e312,hx312_0⟩ := Kd.at_int HR0.out x3_1 p312 q312
        obtain rfl : ad311 = ad312 := (by injection e312)
        replace p312 := eq_true p312
        replace q312 := eq_true q312
        go_wp2
        repeat (go_quiet (fail);try go_wp2)
        go_roundg k1
        case measure => have := HK1.out;omega
        case rel => exact ⟨(wrap64 (x3_1 + 1)),(by first|rfl|(simp;done)|(simp [*];done)),H',⟨by have := HK1.out;omega⟩,by repeat (first|exact Drawn0.refl _|apply Drawn0.step)⟩
    ·rw [if_neg c3] at H
     exact absurd H (by simp)
   ·rw [if_neg c2] at H
    have c2b0 : decide (x3_1 < (l0.length : Int)) = false := decide_eq_false c2
    clear c2
    obtain rfl := Option.some.inj H
    go_wp2
    repeat (go_quiet (fail);try go_wp2)
    go_ret
    exact ⟨by first|rfl|(simp;done)|(simp [*];done),by repeat (first|exact Drawn0.refl _|apply Drawn0.step)⟩

/-! ### codesearchref05_In: function 31 -/
def codesearchref05_In.l0 : Nat → List Int → Int → Int → Option (Bool)
|0,_,_,_ => none
|k + 1,x0,x1,x5 => if x5 < (x0.length : Int) then (if 0 ≤ x5 then (if (rd x0 x5) = x1 then (some true) else (codesearchref05_In.l0 k x0 x1 (wrap64 (x5 + 1)))) else (none)) else (some false)
def codesearchref05_In.f (k : Nat) (l0 : List Int) (a1 : Int) : Option (Bool) := codesearchref05_In.l0 k l0 a1 0
theorem codesearchref05_In.mono_l : ∀ k, (∀ y0 y1 y2, LeO (codesearchref05_In.l0 k y0 y1 y2) (codesearchref05_In.l0 (k + 1) y0 y1 y2))
|0 => fun _ _ _ r h => by simp [codesearchref05_In.l0] at h
|k + 1 => by
  have ih0 := codesearchref05_In.mono_l k
  ·intro y0 y1 y2
   unfold codesearchref05_In.l0
   repeat' first
  |(with_reducible exact ih0 _ _ _)
  |(with_reducible exact LeO.refl _)
  |(with_reducible exact LeO.none _)
  |(with_reducible refine LeO.ite ?_ ?_)
  |(with_reducible refine LeO.bind ?_ (fun _ => ?_))
  |exact ih0 _ _ _
  |exact LeO.none _
  |refine LeO.ite ?_ ?_
  |refine LeO.bind ?_ (fun _ => ?_)
theorem codesearchref05_In.mono : ∀ a0 a1 k, LeO (codesearchref05_In.f k a0 a1) (codesearchref05_In.f (k + 1) a0 a1) := by
 intro a0 a1 k
 have ih0 := codesearchref05_In.mono_l k
 unfold codesearchref05_In.f
 repeat' first
  |(with_reducible exact ih0 _ _ _)
  |(with_reducible exact LeO.refl _)
  |(with_reducible exact LeO.none _)
  |(with_reducible refine LeO.ite ?_ ?_)
  |(with_reducible refine LeO.bind ?_ (fun _ => ?_))
  |exact ih0 _ _ _
  |exact LeO.none _
  |refine LeO.ite ?_ ?_
  |refine LeO.bind ?_ (fun _ => ?_)
set_option maxHeartbeats 4000000 in
set_option maxRecDepth 100000 in
theorem codesearchref05_In.calls (k : Nat) (A0 : Option Addr) (c0 : Nat) (l0 : List Int) (a1 : Int) (r : Bool) (w : World) (hr0 : Kd.C (Kd.int .i64) w A0 l0.length l0) (hc0 : l0.length ≤ c0) (h : codesearchref05_In.f k l0 a1 = some r) :
  Calls Try.prog 31 #[.slice A0 l0.length c0,.int .i64 a1] w fun e w' => e = .returned (.bool r) ∧ Drawn0 w w' := by
 have HR0 := Aside0.mk hr0
 have HC0 := Aside0.mk hc0
 clear hr0 hc0
 have H : (codesearchref05_In.l0 k l0 a1 0) = some r := h
 clear h
 have H' := Aside0.mk H
 clear H
 go_enter Try.func31,Try.ntmps31
 go_wp2
 go_loopg [5] k (fun kq v5 w' => ∃ (x5_1 : Int),v5 = .int .i64 x5_1 ∧ Aside0 (codesearchref05_In.l0 kq l0 a1 x5_1 = some r) ∧ Aside0 (kq ≤ k) ∧ Drawn0 w w')
 case atStart => exact ⟨(0),(by first|rfl|(simp;done)|(simp [*];done)),H',⟨Nat.le_refl _⟩,by repeat (first|exact Drawn0.refl _|apply Drawn0.step)⟩
 case round =>
  clear H'
  try clear p2
  obtain ⟨x5_1,rfl,HA,HK1,⟨m1,rfl⟩⟩ := hrel
  cases gk with
 |zero => exact absurd HA.out (by simp [codesearchref05_In.l0])
 |succ k1 =>
   have H := HA.out
   clear HA
   simp only [codesearchref05_In.l0] at H
   by_cases c3 : x5_1 < (l0.length : Int)
   ·rw [if_pos c3] at H
    have c3b0 : decide (x5_1 < (l0.length : Int)) = true := decide_eq_true c3
    clear c3
    by_cases c4 : 0 ≤ x5_1
    ·rw [if_pos c4] at H
     have c4b0 : decide (0 ≤ x5_1) = true := decide_eq_true c4
     clear c4
     by_cases c5 : (rd l0 x5_1) = a1
     ·rw [if_pos c5] at H
      have c5b0 : ((rd l0 x5_1) == a1) = true := beq_iff_eq.mpr c5
      have c5b1 : ((rd l0 x5_1) != a1) = false := bne_eq_false_iff_eq.mpr c5
      clear c5
      obtain rfl := Option.some.inj H
      have p315 : 0 ≤ (x5_1 : Int) := of_decide_eq_true (by first|(with_reducible assumption)|assumption)
      have q315 : x5_1 < (l0.length : Int) := of_decide_eq_true (by first|(with_reducible assumption)|assumption)
      obtain ⟨ad315,e315,hx315_0⟩ := Kd.at_int HR0.out x5_1 p315 q315
      cases e315
      replace p315 := eq_true p315
      replace q315 := eq_true q315
      go_wp2
      go_ret
      exact ⟨by first|rfl|(simp;done)|(simp [*];done),by repeat (first|exact Drawn0.refl _|apply Drawn0.step)⟩
     ·rw [if_neg c5] at H
      have c5b0 : ((rd l0 x5_1) == a1) = false := beq_eq_false_iff_ne.mpr c5
      have c5b1 : ((rd l0 x5_1) != a1) = true := bne_iff_ne.mpr c5
      have H' := Aside0.mk H
      clear H
      have p315 : 0 ≤ (x5_1 : Int) := of_decide_eq_true (by first|(with_reducible assumption)|assumption)
      have q315 : x5_1 < (l0.length : Int) := of_decide_eq_true (by first|(with_reducible assumption)|assumption)
      obtain ⟨ad315,e315,hx315_0⟩ := Kd.at_int HR0.out x5_1 p315 q315
      cases e315
      replace p315 := eq_true p315
      replace q315 := eq_true q315
      go_wp2
      go_roundg k1
      case measure => have := HK1.out;omega
      case rel => exact ⟨(wrap64 (x5_1 + 1)),(by first|rfl|(simp;done)|(simp [*];done)),H',⟨by have := HK1.out;omega⟩,by repeat (first|exact Drawn0.refl _|apply Drawn0.step)⟩
    ·rw [if_neg c4] at H
     exact absurd H (by simp)
   ·rw [if_neg c3] at H
    have c3b0 : decide (x5_1 < (l0.length : Int)) = false := decide_eq_false c3
    clear c3
    obtain rfl := Option.some.inj H
    go_wp2
    go_ret
    exact ⟨by first|rfl|(simp;done)|(simp [*];done),by repeat (first|exact Drawn0.refl _|apply Drawn0.step)⟩

end Go.Proofs.Ytknpmknkkofnjaa.P
