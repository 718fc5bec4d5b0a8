-- Written by hp.py, a program of this session, over the kit's print of the translation. Not trusted: Lean checks it.
import Derived.Test.YtmgliocboeifdaaGreatDoorRx0
import Derived.Test.YtmgliocboeifdaaGreatDoorRx1
namespace Go.Proofs.YtmgliocboeifdaaGreatDoor.R
open Go.RowKit Go.Proofs.YtmgliocboeifdaaGreatDoorW.PrintWords Go.Proofs.YtmgliocboeifdaaGreatDoorW.PrintLast Go.Proofs.YtmgliocboeifdaaGreatDoorW.PrintMore
attribute [local go_sem] max2_int min2_int max_two min_two max_three min_three max_four min_four   -- for this text's walks alone
set_option linter.unusedVariables false
set_option linter.unusedSimpArgs false

/-! ### slices_Grow_int_int: function 81 (by hand) -/
def slices_Grow_int_int.f (l0 : List Int) (a1 : Int) : Option (List Int) := if 0 ≤ a1 then if a1 < 1000000000000 then some l0 else none else none
/-- The first k of a row of the call's own. -/
theorem own_head {w : World} {base e n cap k g : Nat} {xs : List Value} (h : w.ownsRow base e 1 (.slice (some ⟨g, 0, none⟩) n cap) n xs) (hk : k ≤ n) :
    w.ownsRow base e 1 (.slice (some ⟨g, 0, none⟩) k cap) k (xs.take k) := by
  obtain ⟨hl, h0 | ⟨g', cap', cur, hv, hb, hh, hn, hm, hs, ht⟩⟩ := h
  · cases h0.1
  · injection hv with e1 _ e3
    injection e1 with e1
    injection e1 with e1
    subst e1; subst e3
    refine ⟨by simp; omega, .inr ⟨g, cap, cur, rfl, hb, hh, by omega, hm, hs, ?_⟩⟩
    rw [← ht, Nat.mul_one, Nat.mul_one, List.take_take, Nat.min_eq_left hk]
set_option maxHeartbeats 4000000 in
set_option maxRecDepth 100000 in
theorem slices_Grow_int_int.calls0 (a1 : Int) (r : List Int) (w : World) (h : slices_Grow_int_int.f [] a1 = some r) :
    Calls Tryz.prog 81 #[.slice none ([] : List Int).length 0, .int .i64 a1] w fun e w' => ∃ v0_ : Value, e = .returned (v0_) ∧ Kd.R (Kd.int .i64) 3 w' w.heap.size (fun _ => True) v0_ r ∧ Below w.heap.size w w' := by
  have info3 : (Tryz.prog.info? 3).map (fun i => (i.zero, i.size, i.bytes)) = some (some (.int .i64 0), 1, 8) := by kernel_rfl
  unfold slices_Grow_int_int.f at h
  split at h
  case isFalse => cases h
  rename_i h0
  split at h
  case isFalse => cases h
  rename_i h1
  obtain rfl := Option.some.inj h
  clear h
  have hi := aK info3
  clear info3
  simp only [List.length_nil]
  by_cases hz : a1 = 0
  · subst hz
    go_enter Tryz.func81, Tryz.ntmps81
    go_wp2
    go_ret
    exact ⟨_, rfl, Kd.R_nil _ _ _ _ _, Below.refl _ _⟩
  · have hp : ¬ a1 < 0 := by omega
    have hp2 : 0 < a1 := by omega
    have H0 := aK h0
    have H1 := aK h1
    have hw : wrap64 a1 = a1 := by unfold wrap64; omega
    clear h0 h1 hp
    go_enter Tryz.func81, Tryz.ntmps81
    go_wp2_with (((with_reducible refine gate_builtin (b := .append) (xs := #[.tmp 20, .tmp 21]) rfl ?_); at_builtin; refine Kd.R_append_zeros (Kd.int .i64) (w0 := w) w.heap.size rfl (.tmp 20) (.tmp 21) 27 3 3 (.int .i64 0) 8 rfl Tryz.underlying27 Tryz.underlying3 hi.out rfl (by decide) (by decide) (.slice none 0 0) [] 0 _ (fun _ => True) rfl rfl rfl (fun _ _ => trivial) (Kd.R_nil _ _ _ _ _) ?a0 (Below.refl _ _) (Nat.le_refl _) ?aL ?_; (case a0 => rw [hw]; exact H0.out); (case aL => have := H1.out; have := H0.out; rw [hw]; simp; omega); intro v1 w1 hR hb hg hat; rw [hw] at hR; clear hg hat; have ho := Kd.own_of_R hR; clear hR; simp only [List.nil_append, List.length_replicate] at ho; rcases ho.2 with ⟨_, h0⟩ | ⟨g, cap, cur, hv, _⟩; (case inl => exfalso; omega); subst hv; have HO := aK (own_head ho (Nat.zero_le _)); have HB := aK hb; clear ho hb))
    go_ret
    exact ⟨_, rfl, Kd.R_of_own HO.out (fun _ _ => trivial), HB.out⟩

/-! ### slices_Concat_int_int: function 70 -/
mutual
def slices_Concat_int_int.l0 : Nat → List (List Int) → Int → List (List Int) → Int → Int → Option (List Int)
|0,_,_,_,_,_ => none
|k + 1,x0,x3,x9,x10,x11 => if x11 < x10 then (if 0 ≤ x11 then (if x11 < (x9.length : Int) then (if (wrap64 (x3 + ((rd_L3 x9 x11).length : Int))) < 0 then (none) else (slices_Concat_int_int.l0 k x0 (wrap64 (x3 + ((rd_L3 x9 x11).length : Int))) x9 x10 (wrap64 (x11 + 1)))) else (none)) else (none)) else ((slices_Grow_int_int.f ([] : List Int) x3).bind fun t169 => (slices_Concat_int_int.l1 k t169 x0 (x0.length : Int) 0))
def slices_Concat_int_int.l1 : Nat → List Int → List (List Int) → Int → Int → Option (List Int)
|0,_,_,_,_ => none
|k + 1,x6,x25,x26,x27 => if x27 < x26 then (if 0 ≤ x27 then (if x27 < (x25.length : Int) then (if x6.length + (rd_L3 x25 x27).length < 17592186044416 then (slices_Concat_int_int.l1 k (x6 ++ (rd_L3 x25 x27)) x25 x26 (wrap64 (x27 + 1))) else (none)) else (none)) else (none)) else (some x6)
end
def slices_Concat_int_int.f (k : Nat) (l0 : List (List Int)) : Option (List Int) := slices_Concat_int_int.l0 k l0 0 l0 (l0.length : Int) 0
theorem slices_Concat_int_int.mono_l : ∀ k, (∀ y0 y1 y2 y3 y4, LeO (slices_Concat_int_int.l0 k y0 y1 y2 y3 y4) (slices_Concat_int_int.l0 (k + 1) y0 y1 y2 y3 y4)) ∧ (∀ y0 y1 y2 y3, LeO (slices_Concat_int_int.l1 k y0 y1 y2 y3) (slices_Concat_int_int.l1 (k + 1) y0 y1 y2 y3))
|0 => ⟨fun _ _ _ _ _ r h => by simp [slices_Concat_int_int.l0] at h,fun _ _ _ _ r h => by simp [slices_Concat_int_int.l1] at h⟩
|k + 1 => by
  obtain ⟨ih0,ih1⟩ := slices_Concat_int_int.mono_l k
  refine ⟨?_,?_⟩
  ·intro y0 y1 y2 y3 y4
   unfold slices_Concat_int_int.l0
   repeat' (with_reducible first|exact ih0 _ _ _ _ _|exact ih1 _ _ _ _|exact LeO.refl _|exact LeO.none _|refine LeO.ite ?_ ?_|refine LeO.bind ?_ (fun _ => ?_))
  ·intro y0 y1 y2 y3
   unfold slices_Concat_int_int.l1
   repeat' (with_reducible first|exact ih1 _ _ _ _|exact LeO.refl _|exact LeO.none _|refine LeO.ite ?_ ?_|refine LeO.bind ?_ (fun _ => ?_))
theorem slices_Concat_int_int.mono : ∀ a0 k, LeO (slices_Concat_int_int.f k a0) (slices_Concat_int_int.f (k + 1) a0) := by
 intro a0 k
 obtain ⟨ih0,ih1⟩ := slices_Concat_int_int.mono_l k
 unfold slices_Concat_int_int.f
 repeat' first
  |(with_reducible exact ih0 _ _ _ _ _)
  |(with_reducible exact ih1 _ _ _ _)
  |(with_reducible exact LeO.refl _)
  |(with_reducible exact LeO.none _)
  |(with_reducible refine LeO.ite ?_ ?_)
  |(with_reducible refine LeO.bind ?_ (fun _ => ?_))
  |exact ih0 _ _ _ _ _
  |exact ih1 _ _ _ _
  |exact LeO.none _
  |refine LeO.ite ?_ ?_
  |refine LeO.bind ?_ (fun _ => ?_)
set_option maxHeartbeats 4000000 in
set_option maxRecDepth 100000 in
theorem slices_Concat_int_int.calls (k : Nat) (A0 : Option Addr) (c0 : Nat) (l0 : List (List Int)) (r : List Int) (w : World) (hr0 : Kd.C (Kd.slice 3 (Kd.int .i64)) w A0 l0.length l0) (hc0 : l0.length ≤ c0) (h : slices_Concat_int_int.f k l0 = some r) :
  Calls Tryz.prog 70 #[.slice A0 l0.length c0] w fun e w' => ∃ v0_ : Value,e = .returned (v0_) ∧ Kd.R (Kd.int .i64) 3 w' w.heap.size (fun _ => True) v0_ r ∧ Below w.heap.size w w' := by
 have HR0 := aK hr0
 have HC0 := aK hc0
 clear hr0 hc0
 have HB := aK (Below.refl w.heap.size w)
 have H : (slices_Concat_int_int.l0 k l0 0 l0 (l0.length : Int) 0) = some r := h
 clear h
 have H' := aK H
 clear H
 go_enter Tryz.func70,Tryz.ntmps70
 go_wp2
 go_loopg [3,11] k (fun kq v3 v11 w' => ∃ (x3_1 : Int) (x11_1 : Int),v3 = .int .i64 x3_1 ∧ v11 = .int .i64 x11_1 ∧ Aside0 (slices_Concat_int_int.l0 kq l0 x3_1 l0 (l0.length : Int) x11_1 = some r) ∧ Aside0 (kq ≤ k) ∧ Aside0 (Below w.heap.size w w'))
 case atStart => exact ⟨(0),(0),(by first|rfl|(simp;done)|(simp [*];done)),(by first|rfl|(simp;done)|(simp [*];done)),H',⟨Nat.le_refl _⟩,⟨bM HB.out⟩⟩
 case round =>
  clear H'
  obtain ⟨x3_1,x11_1,rfl,rfl,HA,HK1,HB⟩ := hrel
  cases gk with
 |zero => exact absurd HA.out (by simp [slices_Concat_int_int.l0])
 |succ k1 =>
   have H := HA.out
   clear HA
   simp only [slices_Concat_int_int.l0] at H
   by_cases c2 : x11_1 < (l0.length : Int)
   ·rw [if_pos c2] at H
    have c2b0 := decide_eq_true c2
    clear c2
    obtain ⟨c3,H⟩ := iS H
    have c3b0 := decide_eq_true c3
    clear c3
    obtain ⟨c4,H⟩ := iS H
    have c4b0 := decide_eq_true c4
    clear c4
    obtain ⟨c5,H⟩ := iN H
    have c5b0 := decide_eq_false c5
    clear c5
    have H' := aK H
    clear H
    have p168 : 0 ≤ (x11_1 : Int) := of_decide_eq_true (by assumption)
    have q168 : x11_1 < (l0.length : Int) := of_decide_eq_true (by assumption)
    obtain ⟨ad168,A168_0,c168_0,e168,hx168_0,hl168_0,hi168_0⟩ := at_L3 HR0.out x11_1 p168 q168
    cases e168
    replace hx168_0 := xM HB hx168_0
    have HR168_0 := aK hi168_0
    have HC168_0 := aK hl168_0
    clear hi168_0 hl168_0
    replace p168 := eq_true p168
    replace q168 := eq_true q168
    go_wp2
    go_roundg k1
    case measure => have := HK1.out;omega
    case rel => exact ⟨(wrap64 (x3_1 + ((rd_L3 l0 x11_1).length : Int))),(wrap64 (x11_1 + 1)),(by first|rfl|(simp;done)|(simp [*];done)),(by first|rfl|(simp;done)|(simp [*];done)),H',⟨by have := HK1.out;omega⟩,⟨bM HB.out⟩⟩
   ·rw [if_neg c2] at H
    have c2b0 := decide_eq_false c2
    clear c2
    replace H := Option.bind_eq_some_iff.mp H
    obtain ⟨t169,A60,H⟩ := H
    have A6 := aK A60
    clear A60
    have H' := aK H
    clear H
    go_wp2_with (first|(go_at_call 81;refine calls_of_args (args' := #[.slice none ([] : List Int).length 0,.int .i64 x3_1]) (by first|with_reducible rfl|(simp only [List.length_nil];done)|(simp only [List.length_nil];with_reducible rfl)) ?_;(with_reducible refine (slices_Grow_int_int.calls0 x3_1 t169 _ A6.out).mono ?_);rintro e w7 ⟨v170,rfl,ho0,hb⟩;have HO171 := aK (Kd.R_lower ho0 (below_size (bM HB.out)));replace HB := aK (below_step (bM HB.out) hb);(try clear hb);(try clear ho0)))
    go_loopg [6,27] k1 (fun kq v6 v27 w' => ∃ (x6_2 : List Int) (x27_2 : Int),v27 = .int .i64 x27_2 ∧ Aside0 (slices_Concat_int_int.l1 kq x6_2 l0 (l0.length : Int) x27_2 = some r) ∧ Aside0 (kq ≤ k1) ∧ Aside0 (Kd.R (Kd.int .i64) 3 w' w.heap.size (fun _ => True) v6 x6_2) ∧ Aside0 (Below w.heap.size w w'))
    case atStart => exact ⟨(t169),(0),(by first|rfl|(simp;done)|(simp [*];done)),H',⟨Nat.le_refl _⟩,⟨rM HO171.out⟩,⟨bM HB.out⟩⟩
    case round =>
     clear H'
     try clear p1
     try clear q1
     try clear hx1
     try clear c2
     try clear c2b0
     try clear p2
     try clear p6
     try clear hx168_0
     try clear p168
     try clear q168
     obtain ⟨x6_2,x27_2,rfl,HA,HK2,HO_6,HB⟩ := hrel
     cases gk with
    |zero => exact absurd HA.out (by simp [slices_Concat_int_int.l1])
    |succ k2 =>
      have H := HA.out
      clear HA
      simp only [slices_Concat_int_int.l1] at H
      by_cases c8 : x27_2 < (l0.length : Int)
      ·rw [if_pos c8] at H
       have c8b0 := decide_eq_true c8
       clear c8
       obtain ⟨c9,H⟩ := iS H
       have c9b0 := decide_eq_true c9
       clear c9
       obtain ⟨c10,H⟩ := iS H
       have c10b0 := decide_eq_true c10
       clear c10
       obtain ⟨c11,H⟩ := iS H
       have LMc11 := aK c11
       clear c11
       obtain ⟨y173,hy173⟩ : ∃ y_ : List Int,y_ = (x6_2 ++ (rd_L3 l0 x27_2)) := ⟨_,rfl⟩
       replace H : (slices_Concat_int_int.l1 k2 y173 l0 (l0.length : Int) (wrap64 (x27_2 + 1))) = some r := by first|(rw [hy173];with_reducible exact H)|(have H2_ := (Option.bind_some _ _).symm.trans H;rw [hy173];with_reducible exact H2_)|(have H2_ := (Option.bind_some _ _).symm.trans H;with_reducible exact H2_)|with_reducible exact H|(rw [hy173];exact H)|exact H
       have Ny173 := aK hy173
       clear hy173
       have H' := aK H
       clear H
       have p172 : 0 ≤ (x27_2 : Int) := of_decide_eq_true (by assumption)
       have q172 : x27_2 < (l0.length : Int) := of_decide_eq_true (by assumption)
       obtain ⟨ad172,A172_0,c172_0,e172,hx172_0,hl172_0,hi172_0⟩ := at_L3 HR0.out x27_2 p172 q172
       cases e172
       replace hx172_0 := xM HB hx172_0
       have HR172_0 := aK hi172_0
       have HC172_0 := aK hl172_0
       clear hi172_0 hl172_0
       replace p172 := eq_true p172
       replace q172 := eq_true q172
       go_wp2_with (first|((with_reducible refine gate_builtin (b := .append) (xs := #[.tmp 31,.tmp 32]) rfl ?_);at_builtin;refine Kd.R_append_rows (Kd.int .i64) (w0 := w) w.heap.size rfl (.tmp 31) (.tmp 32) 27 3 (.int .i64 0) 8 rfl Tryz.underlying27 info3 rfl (by decide) (by omega) u6 x6_2 (rd_L3 l0 x27_2) _ _ _ (fun _ => True) (fun _ => False) rfl rfl ?aO ?aR (fun _ _ h => h) (fun _ h => h.elim) ?aF ?aB ?aS ?aL ?_;(case aR => exact cM (Kd.C_below HR172_0.out HB.out));(case aB => exact (bM HB.out));(case aF => exact (fun _ _ => trivial));(case aO => exact (rM HO_6.out));(case aS => exact (below_size (bM HB.out)));(case aL => have := LMc11.out;omega);intro v174 w12 ho hb hg hat;rw [← Ny173.out] at ho;replace HB := aK (hb);have HO175 := aK (ho);clear ho hb hg hat))
       go_roundg k2
       case measure => have := HK1.out;have := HK2.out;omega
       case rel => exact ⟨(y173),(wrap64 (x27_2 + 1)),(by first|rfl|(simp;done)|(simp [*];done)),H',⟨by have := HK1.out;have := HK2.out;omega⟩,⟨rM HO175.out⟩,⟨bM HB.out⟩⟩
      ·rw [if_neg c8] at H
       have c8b0 := decide_eq_false c8
       clear c8
       obtain rfl := Option.some.inj H
       go_wp2
       go_ret
       exact ⟨_,by first|rfl|(simp [errW_none,errW_some] <;> rfl)|(simp [*,errW_none,errW_some] <;> rfl),rM HO_6.out,bM HB.out⟩

/-! ### posting_Or: function 54 -/
def posting_Or.f (k : Nat) (l0 : List Int) (l1 : List Int) : Option (List Int) := (slices_Concat_int_int.f k (([l0, l1] : List (List Int)))).bind fun t179 => ((posting_unique_int.f t179).bind fun t182 => (some t182))
theorem posting_Or.mono : ∀ a0 a1 k, LeO (posting_Or.f k a0 a1) (posting_Or.f (k + 1) a0 a1) := by
 intro a0 a1 k
 unfold posting_Or.f
 repeat' first
  |(with_reducible exact slices_Concat_int_int.mono _ _)
  |(with_reducible exact LeO.refl _)
  |(with_reducible exact LeO.none _)
  |(with_reducible refine LeO.ite ?_ ?_)
  |(with_reducible refine LeO.bind ?_ (fun _ => ?_))
  |exact slices_Concat_int_int.mono _ _
  |exact LeO.none _
  |refine LeO.ite ?_ ?_
  |refine LeO.bind ?_ (fun _ => ?_)
set_option maxHeartbeats 4000000 in
set_option maxRecDepth 100000 in
theorem posting_Or.calls (k : Nat) (P0_ : Nat → Prop) (A0 : Option Addr) (c0 : Nat) (l0 : List Int) (P1_ : Nat → Prop) (A1 : Option Addr) (c1 : Nat) (l1 : List Int) (r : List Int) (w : World) (hs0 : Kd.V (Kd.int .i64) 3 w w.heap.size (fun k_ => P0_ k_) (.slice A0 l0.length c0) l0) (hs1 : Kd.V (Kd.int .i64) 3 w w.heap.size (fun k_ => P1_ k_) (.slice A1 l1.length c1) l1) (h : posting_Or.f k l0 l1 = some r) :
  Calls Tryz.prog 54 #[.slice A0 l0.length c0,.slice A1 l1.length c1] w fun e w' => ∃ v0_ : Value,e = .returned (v0_) ∧ Kd.R (Kd.int .i64) 3 w' w.heap.size (fun k_ => (w.heap.size ≤ k_)) v0_ r ∧ Below w.heap.size w w' := by
 have HO0 := aK (show Kd.V (Kd.int .i64) 3 w w.heap.size (fun k_ => ((P0_ k_ ∨ P1_ k_) ∨ w.heap.size ≤ k_)) (.slice A0 l0.length c0) l0 from Kd.V_mono hs0 (fun k_ hk => .inl (.inl hk)))
 have HO1 := aK (show Kd.V (Kd.int .i64) 3 w w.heap.size (fun k_ => ((P0_ k_ ∨ P1_ k_) ∨ w.heap.size ≤ k_)) (.slice A1 l1.length c1) l1 from Kd.V_mono hs1 (fun k_ hk => .inl (.inr hk)))
 have HB := aK (Below.refl w.heap.size w)
 have H : ((slices_Concat_int_int.f k (([l0,l1] : List (List Int)))).bind fun t179 => ((posting_unique_int.f t179).bind fun t182 => (some t182))) = some r := h
 clear h
 obtain ⟨y176,hy176⟩ : ∃ y_ : List (List Int),y_ = (([l0,l1] : List (List Int))) := ⟨_,rfl⟩
 replace H : ((slices_Concat_int_int.f k y176).bind fun t179 => ((posting_unique_int.f t179).bind fun t182 => (some t182))) = some r := by first|(rw [hy176];with_reducible exact H)|(have H2_ := (Option.bind_some _ _).symm.trans H;rw [hy176];with_reducible exact H2_)|(have H2_ := (Option.bind_some _ _).symm.trans H;with_reducible exact H2_)|with_reducible exact H|(rw [hy176];exact H)|exact H
 have Ny176 := aK hy176
 clear hy176
 replace H := Option.bind_eq_some_iff.mp H
 obtain ⟨t179,A30,H⟩ := H
 have A3 := aK A30
 clear A30
 replace H := Option.bind_eq_some_iff.mp H
 obtain ⟨t182,A40,H⟩ := H
 have A4 := aK A40
 clear A40
 obtain rfl := Option.some.inj H
 go_enter Tryz.func54,Tryz.ntmps54
 go_wp2_with (first|((with_reducible refine gate_dst (N := 7) rfl ?_);refine Kd.N_lit (Kd.slice 3 (Kd.int .i64)) _ 27 ?hg (N' := 7) ?hd (xs := ([l0,l1] : List (List Int))) (inner := [.slice A0 l0.length c0,.slice A1 l1.length c1]) (ok := (fun k_ => ((P0_ k_ ∨ P1_ k_) ∨ w.heap.size ≤ k_))) (okp := (fun k_ => ((P0_ k_ ∨ P1_ k_) ∨ w.heap.size ≤ k_))) ?hr ?hp (fun _ hk => hk) ((show ∀ k_,w.heap.size ≤ k_ → (fun k_ => ((P0_ k_ ∨ P1_ k_) ∨ w.heap.size ≤ k_)) k_ from fun k_ hk => (.inr (Nat.le_trans (below_size (bM HB.out)) hk))) _ (Nat.le_refl _)) (Below.refl _ _) (Nat.le_refl _) (by simp) ?_;(case hd => rfl);(case hg => rfl);(case hr => first|(go_simp;done)|(go_simp;rfl));(case hp => exact (Reps.one (show Kd.FK (Kd.slice 3 (Kd.int .i64)) _ _ l0 [.slice A0 l0.length c0] from (Kd.FK_slice_mk (Kd.V_reads' (Kd.V_mono (ok' := (fun k_ => ((P0_ k_ ∨ P1_ k_) ∨ w.heap.size ≤ k_))) (HO0.out) (fun k_ hk => hk))).2.1 (Kd.V_F (Kd.V_mono (ok' := (fun k_ => ((P0_ k_ ∨ P1_ k_) ∨ w.heap.size ≤ k_))) (HO0.out) (fun k_ hk => hk))))) (Reps.one (show Kd.FK (Kd.slice 3 (Kd.int .i64)) _ _ l1 [.slice A1 l1.length c1] from (Kd.FK_slice_mk (Kd.V_reads' (Kd.V_mono (ok' := (fun k_ => ((P0_ k_ ∨ P1_ k_) ∨ w.heap.size ≤ k_))) (HO1.out) (fun k_ hk => hk))).2.1 (Kd.V_F (Kd.V_mono (ok' := (fun k_ => ((P0_ k_ ∨ P1_ k_) ∨ w.heap.size ≤ k_))) (HO1.out) (fun k_ hk => hk))))) (Reps.none _ _))));intro v177 w5 ho6 hb hg_ hnew_;clear hg_ hnew_;(first|rw [← Ny176.out] at ho6|(simp only [Int.reduceToNat] at ho6;rw [← Ny176.out] at ho6));have HO178 := aK (Kd.N_lower ho6 (below_size (bM HB.out)));replace HB := aK (below_step (bM HB.out) hb);clear hb ho6;obtain ⟨Ao7,co7,eo7⟩ := Kd.N_slice HO178.out;subst eo7)|((with_reducible refine gate_callee (f := 70) rfl ?_);refine goesL_ (some 8) rfl rfl Tryz.func70 (by kernel_rfl) rfl #[.slice Ao7 y176.length co7] rfl (by (try simp only [List.map_toArray,List.map_cons,List.map_nil]);first|done|rfl|(simp only [List.length_drop,List.length_take];rfl)) ?_;(with_reducible refine (slices_Concat_int_int.calls k _ _ y176 t179 _ ?side1 ?side2 A3.out).mono ?_);(case side1 => exact cM (Kd.N_reads' HO178.out).2.2);(case side2 => exact (Kd.N_reads' HO178.out).2.1);rintro e w8 ⟨v180,rfl,ho0,hb⟩;refine ⟨_,rfl,?_⟩;have HO181 := aK (Kd.R_lower (Kd.R_newM (M := fun k_ => (w.heap.size ≤ k_)) ho0 (below_size (bM HB.out)) (fun k_ h_ => h_)) (below_size (bM HB.out)));replace HB := aK (below_step (bM HB.out) hb);(try clear hb);(try clear hk);(try clear ho0);obtain ⟨Ao9,co9,eo9⟩ := Kd.R_slice HO181.out;subst eo9)|((with_reducible refine gate_callee (f := 69) rfl ?_);refine goesL_ (some 9) rfl rfl Tryz.func69 (by kernel_rfl) rfl #[.slice Ao9 t179.length co9] rfl (by (try simp only [List.map_toArray,List.map_cons,List.map_nil]);first|done|rfl|(simp only [List.length_drop,List.length_take];rfl)) ?_;(with_reducible refine (posting_unique_int.calls _ _ t179 t182 _ ?side1 ?side2 A4.out).mono ?_);(case side1 => exact cM (Kd.R_reads' HO181.out).2.2);(case side2 => exact (Kd.R_reads' HO181.out).2.1);rintro e w10 ⟨v183,rfl,ho0,hb⟩;refine ⟨_,rfl,?_⟩;have HO184 := aK (Kd.R_lower (Kd.R_new' (Kd.R_newM (M := fun k_ => (w.heap.size ≤ k_)) ho0 (below_size (bM HB.out)) (fun k_ h_ => h_)) (Kd.R_lt (rM HO181.out))) (below_size (bM HB.out)));replace HB := aK (below_step (bM HB.out) hb);(try clear hb);(try clear hk);(try clear ho0)))
 go_ret
 exact ⟨_,by first|rfl|(simp [errW_none,errW_some] <;> rfl)|(simp [*,errW_none,errW_some] <;> rfl),by (with_reducible repeat (first|apply Kd.R_alloc|apply Kd.R_drewN|apply Kd.R_drew));exact Kd.R_mono HO184.out (fun _ hk => hk.1.1),bM HB.out⟩

/-! ### posting_Minus: function 55 (by hand) -/
def posting_Minus.f (l0 l1 : List Int) : Option (List Int) := if l0.length < 1000000000 then if l1.length < 1000000000 then some ((uniq l0).filter fun x => !(uniq l1).contains x) else none else none
set_option maxHeartbeats 4000000 in
set_option maxRecDepth 100000 in
theorem posting_Minus.calls (A0 : Option Addr) (c0 : Nat) (l0 : List Int) (A1 : Option Addr) (c1 : Nat) (l1 : List Int) (r : List Int) (w : World) (hr0 : Kd.C (Kd.int .i64) w A0 l0.length l0) (hc0 : l0.length ≤ c0) (hr1 : Kd.C (Kd.int .i64) w A1 l1.length l1) (hc1 : l1.length ≤ c1) (h : posting_Minus.f l0 l1 = some r) :
    Calls Tryz.prog 55 #[.slice A0 l0.length c0, .slice A1 l1.length c1] w fun e w' => ∃ v0_ : Value, e = .returned (v0_) ∧ Kd.R (Kd.int .i64) 3 w' w.heap.size (fun _ => True) v0_ r ∧ Below w.heap.size w w' := by
  unfold posting_Minus.f at h
  split at h
  case isFalse => cases h
  rename_i hl0
  split at h
  case isFalse => cases h
  rename_i hl1
  obtain rfl := Option.some.inj h
  clear h
  have hcl := aK (posting_unique_int.calls A0 c0 l0 (uniq l0) w hr0 hc0 (by simp [posting_unique_int.f]; omega))
  have H1 := aK (And.intro hr1 (And.intro hc1 (And.intro hl0 hl1)))
  clear hr0 hc0 hr1 hc1 hl0 hl1
  go_enter Tryz.func55, Tryz.ntmps55
  go_wp2_with fail
  go_at_call 69
  refine hcl.out.mono ?_
  rintro e w1 ⟨v, rfl, hR, hB⟩
  clear hcl
  obtain ⟨A, c, rfl⟩ := Kd.R_slice hR
  have hin := aK (in_calls A1 c1 l1 w1 (Kd.C_below H1.out.1 hB) H1.out.2.1 H1.out.2.2.2)
  have HR := aK hR
  have HB := aK hB
  clear hR hB
  go_wp2_with fail
  go_at_call 72
  refine hin.out.mono ?_
  rintro e w2 ⟨B, rfl, hbx, hb2⟩
  clear hin
  have hR2 := Kd.R_below HR.out hb2
  have ho := Kd.own_of_R hR2
  have hown := Kd.own_of_R HR.out
  have hB2 := below_then HB.out HB.out.size hb2
  have hd := aK (del_row (fun x => (uniq l1).contains x) 83 #[.pointer (some ⟨B, 0, none⟩)] (enters_of Tryz.func83 (by kernel_rfl) rfl) ho hB2 (by have := uniq_len l0; have := H1.out.2.2.1; omega)
    (fun W' hs hc x => in1_gives (hbx.same hs (fun a h1 h2 => hc a h2 (fun e => by have := own_lt hown a.block e.symm; omega))).set (uniq_srt l1) (by have := uniq_len l1; have := H1.out.2.2.2; omega) x))
  clear hbx hb2 HB HR hR2 ho hown hB2 H1
  go_wp2_with fail
  go_at_call 71
  refine hd.out.mono ?_
  rintro e w3 ⟨v', rfl, hR, hB⟩
  clear hd
  have HR := aK hR
  have HB := aK hB
  clear hR hB
  go_wp2
  go_ret
  exact ⟨_, rfl, HR.out, HB.out⟩

end Go.Proofs.YtmgliocboeifdaaGreatDoor.R
