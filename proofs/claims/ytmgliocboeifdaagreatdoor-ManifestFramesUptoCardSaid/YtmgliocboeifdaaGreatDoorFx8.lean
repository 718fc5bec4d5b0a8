import Derived.Test.YtmgliocboeifdaaGreatDoorFx0
import Derived.Test.YtmgliocboeifdaaGreatDoorFx1
namespace Go.Proofs.YtmgliocboeifdaaGreatDoor.F
open Go.RowKit Go.Proofs.YtmgliocboeifdaaGreatDoorW.PrintWords Go.Proofs.YtmgliocboeifdaaGreatDoorW.PrintLast Go.Proofs.YtmgliocboeifdaaGreatDoorW.PrintMore
set_option maxHeartbeats 4000000
set_option maxRecDepth 100000
attribute [local go_sem] max2_int min2_int max_two min_two max_three min_three max_four min_four
set_option linter.unusedVariables false
set_option linter.unusedSimpArgs false
def slices_Grow_int_int.f (l0 : List Int) (a1 : Int) : Option (List Int) := if 0 ≤ a1 then if a1 < 1000000000000 then some l0 else none else none
theorem own_head {w : World} {base e n cap k g : Nat} {xs : List Value} (h : w.ownsRow base e 1 (.slice (some ⟨g, 0, none⟩) n cap) n xs) (hk : k ≤ n) :
    w.ownsRow base e 1 (.slice (some ⟨g, 0, none⟩) k cap) k (xs.take k) := by
  obtain ⟨hl, h0 | ⟨g', cap', cur, hv, hb, hh, hn, hm, hs, ht⟩⟩ := h
  · cases h0.1
  · injection hv with e1 _ e3
    injection e1 with e1
    injection e1 with e1
    subst e1; subst e3
    refine ⟨by simp; omega, .inr ⟨g, cap, cur, rfl, hb, hh, by omega, hm, hs, ?_⟩⟩
    rw [← ht, Nat.mul_one, Nat.mul_one, List.take_take, Nat.min_eq_left hk]
theorem slices_Grow_int_int.calls0 (a1 : Int) (r : List Int) (w : World) (h : slices_Grow_int_int.f [] a1 = some r) :
    Calls Tryz.prog 81 #[.slice none ([] : List Int).length 0, .int .i64 a1] w fun e w' => ∃ v0_ : Value, e = .returned (v0_) ∧ Kd.R (Kd.int .i64) 3 w' w.heap.size (fun _ => True) v0_ r ∧ Below w.heap.size w w' := by
  have info3 : (Tryz.prog.info? 3).map (fun i => (i.zero, i.size, i.bytes)) = some (some (.int .i64 0), 1, 8) := by kernel_rfl
  unfold slices_Grow_int_int.f at h
  split at h
  case isFalse => cases h
  rename_i h0
  split at h
  case isFalse => cases h
  rename_i h1
  obtain rfl := Option.some.inj h
  clear h
  have hi := aK info3
  clear info3
  simp only [List.length_nil]
  by_cases hz : a1 = 0
  · subst hz
    go_enter Tryz.func81, Tryz.ntmps81
    go_wp2
    go_ret
    exact ⟨_, rfl, Kd.R_nil _ _ _ _ _, Below.refl _ _⟩
  · have hp : ¬ a1 < 0 := by omega
    have hp2 : 0 < a1 := by omega
    have H0 := aK h0
    have H1 := aK h1
    have hw : wrap64 a1 = a1 := by unfold wrap64; omega
    clear h0 h1 hp
    go_enter Tryz.func81, Tryz.ntmps81
    go_wp2_with (((with_reducible refine gate_builtin (b := .append) (xs := #[.tmp 20, .tmp 21]) rfl ?_); at_builtin; refine Kd.R_append_zeros (Kd.int .i64) (w0 := w) w.heap.size rfl (.tmp 20) (.tmp 21) 27 3 3 (.int .i64 0) 8 rfl Tryz.underlying27 Tryz.underlying3 hi.out rfl (by decide) (by decide) (.slice none 0 0) [] 0 _ (fun _ => True) rfl rfl rfl (fun _ _ => trivial) (Kd.R_nil _ _ _ _ _) ?a0 (Below.refl _ _) (Nat.le_refl _) ?aL ?_; (case a0 => rw [hw]; exact H0.out); (case aL => have := H1.out; have := H0.out; rw [hw]; simp; omega); intro v1 w1 hR hb hg hat; rw [hw] at hR; clear hg hat; have ho := Kd.own_of_R hR; clear hR; simp only [List.nil_append, List.length_replicate] at ho; rcases ho.2 with ⟨_, h0⟩ | ⟨g, cap, cur, hv, _⟩; (case inl => exfalso; omega); subst hv; have HO := aK (own_head ho (Nat.zero_le _)); have HB := aK hb; clear ho hb))
    go_ret
    exact ⟨_, rfl, Kd.R_of_own HO.out (fun _ _ => trivial), HB.out⟩
mutual
def slices_Concat_int_int.l0 : Nat → List (List Int) → Int → List (List Int) → Int → Int → Option (List Int)
|0,_,_,_,_,_ => none
|k + 1,x0,x3,x9,ac,aa => if aa < ac then (if 0 ≤ aa then (if aa < (x9.length : Int) then (if (wrap64 (x3 + ((rd_L3 x9 aa).length : Int))) < 0 then (none) else (slices_Concat_int_int.l0 k x0 (wrap64 (x3 + ((rd_L3 x9 aa).length : Int))) x9 ac (wrap64 (aa + 1)))) else (none)) else (none)) else ((slices_Grow_int_int.f ([] : List Int) x3).bind fun ab => (slices_Concat_int_int.l1 k ab x0 (x0.length : Int) 0))
def slices_Concat_int_int.l1 : Nat → List Int → List (List Int) → Int → Int → Option (List Int)
|0,_,_,_,_ => none
|k + 1,x6,ab,ac,aa => if aa < ac then (if 0 ≤ aa then (if aa < (ab.length : Int) then (if x6.length + (rd_L3 ab aa).length < 17592186044416 then (slices_Concat_int_int.l1 k (x6 ++ (rd_L3 ab aa)) ab ac (wrap64 (aa + 1))) else (none)) else (none)) else (none)) else (some x6)
end
def slices_Concat_int_int.f (k : Nat) (l0 : List (List Int)) : Option (List Int) := slices_Concat_int_int.l0 k l0 0 l0 (l0.length : Int) 0
theorem slices_Concat_int_int.mono_l : ∀ k, (∀ y0 y1 y2 y3 y4, LeO (slices_Concat_int_int.l0 k y0 y1 y2 y3 y4) (slices_Concat_int_int.l0 (k + 1) y0 y1 y2 y3 y4)) ∧ (∀ y0 y1 y2 y3, LeO (slices_Concat_int_int.l1 k y0 y1 y2 y3) (slices_Concat_int_int.l1 (k + 1) y0 y1 y2 y3))
|0 => ⟨fun _ _ _ _ _ r h => by simp [slices_Concat_int_int.l0] at h,fun _ _ _ _ r h => by simp [slices_Concat_int_int.l1] at h⟩
|k + 1 => by
  obtain ⟨ih0,ih1⟩ := slices_Concat_int_int.mono_l k
  refine ⟨?_,?_⟩
  ·intro y0 y1 y2 y3 y4
   unfold slices_Concat_int_int.l0
   repeat' (with_reducible first|exact ih0 _ _ _ _ _|exact ih1 _ _ _ _|exact LeO.refl _|exact LeO.none _|refine LeO.ite ?_ ?_|refine LeO.bind ?_ (fun _ => ?_))
  ·intro y0 y1 y2 y3
   unfold slices_Concat_int_int.l1
   repeat' (with_reducible first|exact ih1 _ _ _ _|exact LeO.refl _|exact LeO.none _|refine LeO.ite ?_ ?_|refine LeO.bind ?_ (fun _ => ?_))
theorem slices_Concat_int_int.mono : ∀ a0 k, LeO (slices_Concat_int_int.f k a0) (slices_Concat_int_int.f (k + 1) a0) := by
 intro a0 k
 obtain ⟨ih0,ih1⟩ := slices_Concat_int_int.mono_l k
 unfold slices_Concat_int_int.f
 repeat' (with_reducible first|exact ih0 _ _ _ _ _|exact ih1 _ _ _ _|exact LeO.refl _|exact LeO.none _|refine LeO.ite ?_ ?_|refine LeO.bind ?_ (fun _ => ?_))
theorem slices_Concat_int_int.calls (k : Nat) (A0 : Option Addr) (c0 : Nat) (l0 : List (List Int)) (r : List Int) (w : World) (aT : Kd.C (Kd.slice 3 (Kd.int .i64)) w A0 l0.length l0) (aU : l0.length ≤ c0) (h : slices_Concat_int_int.f k l0 = some r) :
  Calls Tryz.prog 70 #[.slice A0 l0.length c0] w fun e w' => ∃ aV : Value,e = .returned (aV) ∧ Kd.R (Kd.int .i64) 3 w' w.heap.size (fun _ => True) aV r ∧ Below w.heap.size w w' := by
 have aW := aK aT
 have bc := aK aU
 clear aT aU
 have HB := aK (Below.refl w.heap.size w)
 have H : (slices_Concat_int_int.l0 k l0 0 l0 (l0.length : Int) 0) = some r := h
 clear h
 have H' := aK H
 clear H
 go_enter Tryz.func70,Tryz.ntmps70
 go_wp2
 go_loopg [3,11] k (fun kq v3 a4 w' => ∃ (aj : Int) (ab : Int),v3 = .int .i64 aj ∧ a4 = .int .i64 ab ∧ Aside0 (slices_Concat_int_int.l0 kq l0 aj l0 (l0.length : Int) ab = some r) ∧ Aside0 (kq ≤ k) ∧ Aside0 (Below w.heap.size w w'))
 case atStart => exact ⟨(0),(0),(by first|rfl|(simp;done)|(simp [*];done)),(by first|rfl|(simp;done)|(simp [*];done)),H',⟨Nat.le_refl _⟩,⟨bM HB.out⟩⟩
 case round =>
  clear H'
  obtain ⟨aj,ab,rfl,rfl,HA,aA,HB⟩ := hrel
  cases gk with
 |zero => exact absurd HA.out (by simp [slices_Concat_int_int.l0])
 |succ k1 =>
   have H := HA.out
   clear HA
   simp only [slices_Concat_int_int.l0] at H
   by_cases c2 : ab < (l0.length : Int)
   ·rw [if_pos c2] at H
    have aq := decide_eq_true c2
    clear c2
    obtain ⟨c3,H⟩ := iS H
    have a5 := decide_eq_true c3
    clear c3
    obtain ⟨c4,H⟩ := iS H
    have a6 := decide_eq_true c4
    clear c4
    obtain ⟨c5,H⟩ := iN H
    have a7 := decide_eq_false c5
    clear c5
    have H' := aK H
    clear H
    have al : 0 ≤ (ab : Int) := dA
    have am : ab < (l0.length : Int) := dA
    obtain ⟨aX,aG,aH,aI,ac,ae,af⟩ := at_L3 aW.out ab al am
    cases aI
    replace ac := xM HB ac
    have aC := aK af
    have aD := aK ae
    clear af ae
    replace al := eq_true al
    replace am := eq_true am
    go_wp2
    go_roundg k1
    case measure => have := aA.out;omega
    case rel => exact ⟨(wrap64 (aj + ((rd_L3 l0 ab).length : Int))),(wrap64 (ab + 1)),(by first|rfl|(simp;done)|(simp [*];done)),(by first|rfl|(simp;done)|(simp [*];done)),H',⟨by have := aA.out;omega⟩,⟨bM HB.out⟩⟩
   ·rw [if_neg c2] at H
    have aq := decide_eq_false c2
    clear c2
    replace H := Option.bind_eq_some_iff.mp H
    obtain ⟨ar,aY,H⟩ := H
    have A6 := aK aY
    clear aY
    have H' := aK H
    clear H
    go_wp2_with (first|(go_at_call 81;refine calls_of_args (args' := #[.slice none ([] : List Int).length 0,.int .i64 aj]) (by first|with_reducible rfl|(simp only [List.length_nil];done)|(simp only [List.length_nil];with_reducible rfl)) ?_;(with_reducible refine (slices_Grow_int_int.calls0 aj ar _ A6.out).mono ?_);rintro e w7 ⟨a8,rfl,aZ,hb⟩;have au := aK (Kd.R_lower aZ (below_size (bM HB.out)));replace HB := aK (below_step (bM HB.out) hb);(try clear hb);(try clear aZ)))
    go_loopg [6,27] k1 (fun kq v6 a9 w' => ∃ (ak : List Int) (aa : Int),a9 = .int .i64 aa ∧ Aside0 (slices_Concat_int_int.l1 kq ak l0 (l0.length : Int) aa = some r) ∧ Aside0 (kq ≤ k1) ∧ Aside0 (Kd.R (Kd.int .i64) 3 w' w.heap.size (fun _ => True) v6 ak) ∧ Aside0 (Below w.heap.size w w'))
    case atStart => exact ⟨(ar),(0),(by first|rfl|(simp;done)|(simp [*];done)),H',⟨Nat.le_refl _⟩,⟨rM au.out⟩,⟨bM HB.out⟩⟩
    case round =>
     clear H'
     try clear p1
     try clear q1
     try clear hx1
     try clear c2
     try clear aq
     try clear p2
     try clear p6
     try clear ac
     try clear al
     try clear am
     obtain ⟨ak,aa,rfl,HA,a0,av,HB⟩ := hrel
     cases gk with
    |zero => exact absurd HA.out (by simp [slices_Concat_int_int.l1])
    |succ k2 =>
      have H := HA.out
      clear HA
      simp only [slices_Concat_int_int.l1] at H
      by_cases c8 : aa < (l0.length : Int)
      ·rw [if_pos c8] at H
       have aJ := decide_eq_true c8
       clear c8
       obtain ⟨c9,H⟩ := iS H
       have ba := decide_eq_true c9
       clear c9
       obtain ⟨c10,H⟩ := iS H
       have a1 := decide_eq_true c10
       clear c10
       obtain ⟨a2,H⟩ := iS H
       have aw := aK a2
       clear a2
       obtain ⟨ax,ad⟩ : ∃ y_ : List Int,y_ = (ak ++ (rd_L3 l0 aa)) := ⟨_,rfl⟩
       replace H : (slices_Concat_int_int.l1 k2 ax l0 (l0.length : Int) (wrap64 (aa + 1))) = some r := by first|(rw [ad];with_reducible exact H)|(have aM := (Option.bind_some _ _).symm.trans H;rw [ad];with_reducible exact aM)|(have aM := (Option.bind_some _ _).symm.trans H;with_reducible exact aM)|with_reducible exact H|(rw [ad];exact H)|exact H
       have ay := aK ad
       clear ad
       have H' := aK H
       clear H
       have ao : 0 ≤ (aa : Int) := dA
       have ap : aa < (l0.length : Int) := dA
       obtain ⟨a3,aN,aP,aQ,ag,ah,ai⟩ := at_L3 aW.out aa ao ap
       cases aQ
       replace ag := xM HB ag
       have an := aK ai
       have aE := aK ah
       clear ai ah
       replace ao := eq_true ao
       replace ap := eq_true ap
       go_wp2_with (first|((with_reducible refine gate_builtin (b := .append) (xs := #[.tmp 31,.tmp 32]) rfl ?_);at_builtin;refine Kd.R_append_rows (Kd.int .i64) (w0 := w) w.heap.size rfl (.tmp 31) (.tmp 32) 27 3 (.int .i64 0) 8 rfl Tryz.underlying27 info3 rfl (by decide) (by omega) u6 ak (rd_L3 l0 aa) _ _ _ (fun _ => True) (fun _ => False) rfl rfl ?aO ?aR (fun _ _ h => h) (fun _ h => h.elim) ?aF ?aB ?aS ?aL ?_;(case aR => exact cM (Kd.C_below an.out HB.out));(case aB => exact (bM HB.out));(case aF => exact (fun _ _ => trivial));(case aO => exact (rM av.out));(case aS => exact (below_size (bM HB.out)));(case aL => have := aw.out;omega);intro bb bd ho hb hg hat;rw [← ay.out] at ho;replace HB := aK (hb);have az := aK (ho);clear ho hb hg hat))
       go_roundg k2
       case measure => have := aA.out;have := a0.out;omega
       case rel => exact ⟨(ax),(wrap64 (aa + 1)),(by first|rfl|(simp;done)|(simp [*];done)),H',⟨by have := aA.out;have := a0.out;omega⟩,⟨rM az.out⟩,⟨bM HB.out⟩⟩
      ·rw [if_neg c8] at H
       have aJ := decide_eq_false c8
       clear c8
       obtain rfl := Option.some.inj H
       go_wp2
       go_ret
       exact ⟨_,by first|rfl|(simp [errW_none,errW_some] <;> rfl)|(simp [*,errW_none,errW_some] <;> rfl),rM av.out,bM HB.out⟩
def posting_Or.f (k : Nat) (l0 : List Int) (l1 : List Int) : Option (List Int) := (slices_Concat_int_int.f k (([l0, l1] : List (List Int)))).bind fun aa => ((posting_unique_int.f aa).bind fun ab => (some ab))
theorem posting_Or.mono : ∀ a0 a1 k, LeO (posting_Or.f k a0 a1) (posting_Or.f (k + 1) a0 a1) := by
 intro a0 a1 k
 unfold posting_Or.f
 repeat' (with_reducible first|exact slices_Concat_int_int.mono _ _|exact LeO.refl _|exact LeO.none _|refine LeO.ite ?_ ?_|refine LeO.bind ?_ (fun _ => ?_))
theorem posting_Or.calls (k : Nat) (ah : Nat → Prop) (A0 : Option Addr) (c0 : Nat) (l0 : List Int) (ai : Nat → Prop) (A1 : Option Addr) (c1 : Nat) (l1 : List Int) (r : List Int) (w : World) (aw : Kd.V (Kd.int .i64) 3 w w.heap.size (fun k_ => ah k_) (.slice A0 l0.length c0) l0) (ax : Kd.V (Kd.int .i64) 3 w w.heap.size (fun k_ => ai k_) (.slice A1 l1.length c1) l1) (h : posting_Or.f k l0 l1 = some r) :
  Calls Tryz.prog 54 #[.slice A0 l0.length c0,.slice A1 l1.length c1] w fun e w' => ∃ ap : Value,e = .returned (ap) ∧ Kd.R (Kd.int .i64) 3 w' w.heap.size (fun k_ => (w.heap.size ≤ k_)) ap r ∧ Below w.heap.size w w' := by
 have aq := aK (show Kd.V (Kd.int .i64) 3 w w.heap.size (fun k_ => ((ah k_ ∨ ai k_) ∨ w.heap.size ≤ k_)) (.slice A0 l0.length c0) l0 from Kd.V_mono aw (fun k_ hk => .inl (.inl hk)))
 have ar := aK (show Kd.V (Kd.int .i64) 3 w w.heap.size (fun k_ => ((ah k_ ∨ ai k_) ∨ w.heap.size ≤ k_)) (.slice A1 l1.length c1) l1 from Kd.V_mono ax (fun k_ hk => .inl (.inr hk)))
 have HB := aK (Below.refl w.heap.size w)
 have H : ((slices_Concat_int_int.f k (([l0,l1] : List (List Int)))).bind fun ab => ((posting_unique_int.f ab).bind fun ad => (some ad))) = some r := h
 clear h
 obtain ⟨ak,aa⟩ : ∃ y_ : List (List Int),y_ = (([l0,l1] : List (List Int))) := ⟨_,rfl⟩
 replace H : ((slices_Concat_int_int.f k ak).bind fun ab => ((posting_unique_int.f ab).bind fun ad => (some ad))) = some r := by first|(rw [aa];with_reducible exact H)|(have ao := (Option.bind_some _ _).symm.trans H;rw [aa];with_reducible exact ao)|(have ao := (Option.bind_some _ _).symm.trans H;with_reducible exact ao)|with_reducible exact H|(rw [aa];exact H)|exact H
 have aj := aK aa
 clear aa
 replace H := Option.bind_eq_some_iff.mp H
 obtain ⟨ab,au,H⟩ := H
 have A3 := aK au
 clear au
 replace H := Option.bind_eq_some_iff.mp H
 obtain ⟨ad,av,H⟩ := H
 have A4 := aK av
 clear av
 obtain rfl := Option.some.inj H
 go_enter Tryz.func54,Tryz.ntmps54
 go_wp2_with (first|((with_reducible refine gate_dst (N := 7) rfl ?_);refine Kd.N_lit (Kd.slice 3 (Kd.int .i64)) _ 27 ?hg (N' := 7) ?hd (xs := ([l0,l1] : List (List Int))) (inner := [.slice A0 l0.length c0,.slice A1 l1.length c1]) (ok := (fun k_ => ((ah k_ ∨ ai k_) ∨ w.heap.size ≤ k_))) (okp := (fun k_ => ((ah k_ ∨ ai k_) ∨ w.heap.size ≤ k_))) ?hr ?hp (fun _ hk => hk) ((show ∀ k_,w.heap.size ≤ k_ → (fun k_ => ((ah k_ ∨ ai k_) ∨ w.heap.size ≤ k_)) k_ from fun k_ hk => (.inr (Nat.le_trans (below_size (bM HB.out)) hk))) _ (Nat.le_refl _)) (Below.refl _ _) (Nat.le_refl _) (by simp) ?_;(case hd => rfl);(case hg => rfl);(case hr => first|(go_simp;done)|(go_simp;rfl));(case hp => exact (Reps.one (show Kd.FK (Kd.slice 3 (Kd.int .i64)) _ _ l0 [.slice A0 l0.length c0] from (Kd.FK_slice_mk (Kd.V_reads' (Kd.V_mono (ok' := (fun k_ => ((ah k_ ∨ ai k_) ∨ w.heap.size ≤ k_))) (aq.out) (fun k_ hk => hk))).2.1 (Kd.V_F (Kd.V_mono (ok' := (fun k_ => ((ah k_ ∨ ai k_) ∨ w.heap.size ≤ k_))) (aq.out) (fun k_ hk => hk))))) (Reps.one (show Kd.FK (Kd.slice 3 (Kd.int .i64)) _ _ l1 [.slice A1 l1.length c1] from (Kd.FK_slice_mk (Kd.V_reads' (Kd.V_mono (ok' := (fun k_ => ((ah k_ ∨ ai k_) ∨ w.heap.size ≤ k_))) (ar.out) (fun k_ hk => hk))).2.1 (Kd.V_F (Kd.V_mono (ok' := (fun k_ => ((ah k_ ∨ ai k_) ∨ w.heap.size ≤ k_))) (ar.out) (fun k_ hk => hk))))) (Reps.none _ _))));intro ay w5 al hb hg_ hnew_;clear hg_ hnew_;(first|rw [← aj.out] at al|(simp only [Int.reduceToNat] at al;rw [← aj.out] at al));have ae := aK (Kd.N_lower al (below_size (bM HB.out)));replace HB := aK (below_step (bM HB.out) hb);clear hb al;obtain ⟨az,aA,aB⟩ := Kd.N_slice ae.out;subst aB)|((with_reducible refine gate_callee (f := 70) rfl ?_);refine gL 8 Tryz.func70 #[.slice az ak.length aA] ?_;(with_reducible refine (slices_Concat_int_int.calls k _ _ ak ab _ ?af ?ag A3.out).mono ?_);(case af => exact cM (Kd.N_reads' ae.out).2.2);(case ag => exact (Kd.N_reads' ae.out).2.1);rintro e w8 ⟨aC,rfl,am,hb⟩;refine ⟨_,rfl,?_⟩;have ac := aK (Kd.R_lower (Kd.R_newM (M := fun k_ => (w.heap.size ≤ k_)) am (below_size (bM HB.out)) (fun k_ h_ => h_)) (below_size (bM HB.out)));replace HB := aK (below_step (bM HB.out) hb);(try clear hb);(try clear hk);(try clear am);obtain ⟨aD,aE,aF⟩ := Kd.R_slice ac.out;subst aF)|((with_reducible refine gate_callee (f := 69) rfl ?_);refine gL 9 Tryz.func69 #[.slice aD ab.length aE] ?_;(with_reducible refine (posting_unique_int.calls _ _ ab ad _ ?af ?ag A4.out).mono ?_);(case af => exact cM (Kd.R_reads' ac.out).2.2);(case ag => exact (Kd.R_reads' ac.out).2.1);rintro e aH ⟨aG,rfl,am,hb⟩;refine ⟨_,rfl,?_⟩;have an := aK (Kd.R_lower (Kd.R_new' (Kd.R_newM (M := fun k_ => (w.heap.size ≤ k_)) am (below_size (bM HB.out)) (fun k_ h_ => h_)) (Kd.R_lt (rM ac.out))) (below_size (bM HB.out)));replace HB := aK (below_step (bM HB.out) hb);(try clear hb);(try clear hk);(try clear am)))
 go_ret
 exact ⟨_,by first|rfl|(simp [errW_none,errW_some] <;> rfl)|(simp [*,errW_none,errW_some] <;> rfl),by refine rO ?_;exact Kd.R_mono an.out (fun _ hk => hk.1.1),bM HB.out⟩
def posting_Minus.f (l0 l1 : List Int) : Option (List Int) := if l0.length < 1000000000 then if l1.length < 1000000000 then some ((uniq l0).filter fun x => !(uniq l1).contains x) else none else none
theorem posting_Minus.calls (A0 : Option Addr) (c0 : Nat) (l0 : List Int) (A1 : Option Addr) (c1 : Nat) (l1 : List Int) (r : List Int) (w : World) (ab : Kd.C (Kd.int .i64) w A0 l0.length l0) (ac : l0.length ≤ c0) (ad : Kd.C (Kd.int .i64) w A1 l1.length l1) (ae : l1.length ≤ c1) (h : posting_Minus.f l0 l1 = some r) :
    Calls Tryz.prog 55 #[.slice A0 l0.length c0, .slice A1 l1.length c1] w fun e w' => ∃ af : Value, e = .returned (af) ∧ Kd.R (Kd.int .i64) 3 w' w.heap.size (fun _ => True) af r ∧ Below w.heap.size w w' := by
  unfold posting_Minus.f at h
  split at h
  case isFalse => cases h
  rename_i ag
  split at h
  case isFalse => cases h
  rename_i ah
  obtain rfl := Option.some.inj h
  clear h
  have hcl := aK (posting_unique_int.calls A0 c0 l0 (uniq l0) w ab ac (by simp [posting_unique_int.f]; omega))
  have H1 := aK (And.intro ad (And.intro ae (And.intro ag ah)))
  clear ab ac ad ae ag ah
  go_enter Tryz.func55, Tryz.ntmps55
  go_wp2_with fail
  go_at_call 69
  refine hcl.out.mono ?_
  rintro e w1 ⟨v, rfl, hR, hB⟩
  clear hcl
  obtain ⟨A, c, rfl⟩ := Kd.R_slice hR
  have hin := aK (in_calls A1 c1 l1 w1 (Kd.C_below H1.out.1 hB) H1.out.2.1 H1.out.2.2.2)
  have HR := aK hR
  have HB := aK hB
  clear hR hB
  go_wp2_with fail
  go_at_call 72
  refine hin.out.mono ?_
  rintro e w2 ⟨B, rfl, hbx, aa⟩
  clear hin
  have ai := Kd.R_below HR.out aa
  have ho := Kd.own_of_R ai
  have hown := Kd.own_of_R HR.out
  have aj := below_then HB.out HB.out.size aa
  have hd := aK (del_row (fun x => (uniq l1).contains x) 83 #[.pointer (some ⟨B, 0, none⟩)] (enters_of Tryz.func83 (by kernel_rfl) rfl) ho aj (by have := uniq_len l0; have := H1.out.2.2.1; omega)
    (fun W' hs hc x => in1_gives (hbx.same hs (fun a h1 h2 => hc a h2 (fun e => by have := own_lt hown a.block e.symm; omega))).set (uniq_srt l1) (by have := uniq_len l1; have := H1.out.2.2.2; omega) x))
  clear hbx aa HB HR ai ho hown aj H1
  go_wp2_with fail
  go_at_call 71
  refine hd.out.mono ?_
  rintro e w3 ⟨v', rfl, hR, hB⟩
  clear hd
  have HR := aK hR
  have HB := aK hB
  clear hR hB
  go_wp2
  go_ret
  exact ⟨_, rfl, HR.out, HB.out⟩
end Go.Proofs.YtmgliocboeifdaaGreatDoor.F
