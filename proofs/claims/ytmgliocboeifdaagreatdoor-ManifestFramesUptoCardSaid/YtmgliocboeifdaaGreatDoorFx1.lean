import Derived.Test.YtmgliocboeifdaaGreatDoorFx0
namespace Go.Proofs.YtmgliocboeifdaaGreatDoor.F
open Go.RowKit Go.Proofs.YtmgliocboeifdaaGreatDoorW.PrintWords Go.Proofs.YtmgliocboeifdaaGreatDoorW.PrintLast Go.Proofs.YtmgliocboeifdaaGreatDoorW.PrintMore
set_option maxHeartbeats 4000000
set_option maxRecDepth 100000
attribute [local go_sem] max2_int min2_int max_two min_two max_three min_three max_four min_four
set_option linter.unusedVariables false
set_option linter.unusedSimpArgs false
def crcStep (x : Int) : Int := if Go.bits .and .u32 x 1 = 1 then Go.bits .xor .u32 (x / 2) 2197175160 else x / 2
def crcSteps : Nat → Int → Int
  | 0, x => x
  | j + 1, x => crcStep (crcSteps j x)
def tabV (i : Nat) : Int := crcSteps 4 (i : Int)
def tabA (k : Nat) : Array Value := ((List.range 16).map fun i => Value.int .u32 (if i < k then tabV i else 0)).toArray
theorem tabA_size (k : Nat) : (tabA k).size = 16 := by simp [tabA]
theorem tabA_set (k : Nat) (h : k < 16) : (tabA k).setIfInBounds k (.int .u32 (tabV k)) = tabA (k + 1) := by
  apply Array.ext_getElem?
  intro j
  rw [Array.getElem?_setIfInBounds]
  simp only [tabA, List.getElem?_toArray, List.getElem?_map, List.size_toArray, List.length_map, List.length_range]
  by_cases hj : j < 16
  · rw [List.getElem?_range hj]
    by_cases e : k = j
    · subst e; simp [h]
    · simp [e]
      by_cases h2 : j < k
      · simp [h2]; omega
      · rw [if_neg h2, if_neg (by omega)]
  · rw [List.getElem?_eq_none (by simp; omega)]
    simp; omega
theorem tabA_one : (tabA 16).all (·.oneCell') = true := by
  simp [tabA, Value.oneCell']
theorem bits_nonneg_u32 (op : BinOp) (x y : Int) : 0 ≤ Go.bits op .u32 x y := by
  unfold Go.bits
  simp only [IntKind.wrap, IntKind.bits, IntKind.signed]
  simp
  omega
theorem crcStep_nonneg (x : Int) (h : 0 ≤ x) : 0 ≤ crcStep x := by
  unfold crcStep
  split
  · exact bits_nonneg_u32 _ _ _
  · omega
theorem crcSteps_nonneg (j : Nat) (x : Int) (h : 0 ≤ x) : 0 ≤ crcSteps j x := by
  induction j with
  | zero => exact h
  | succ j ih => exact crcStep_nonneg _ ih
theorem checksum_table.calls (w : World) :
    Calls Tryz.prog 86 #[] w fun e w' => e = .returned (.agg (tabA 16)) ∧ Below w.heap.size w w' := by
  go_enter Tryz.func86, Tryz.ntmps86
  go_wp2
  have z0 : #[Value.int IntKind.u32 0, Value.int IntKind.u32 0, Value.int IntKind.u32 0, Value.int IntKind.u32 0, Value.int IntKind.u32 0, Value.int IntKind.u32 0, Value.int IntKind.u32 0, Value.int IntKind.u32 0, Value.int IntKind.u32 0, Value.int IntKind.u32 0, Value.int IntKind.u32 0, Value.int IntKind.u32 0, Value.int IntKind.u32 0, Value.int IntKind.u32 0, Value.int IntKind.u32 0, Value.int IntKind.u32 0] = tabA 0 := rfl
  rw [z0]
  clear z0
  generalize aa : (w.alloc (.cells (tabA 0) 95)).alloc (.cells (tabA 0) 95) = W0
  have h0 : Aside0 (W0.heap[w.heap.size]? = some (.cells (tabA 0) 95 (0, 0))) := ⟨by subst aa; exact (((Below.refl (w.alloc (.cells (tabA 0) 95)).heap.size (w.alloc (.cells (tabA 0) 95))).alloc (Nat.le_refl _) (.cells (tabA 0) 95)).block w.heap.size (by simp)).trans (by simpa using heap_alloc_new w (.cells (tabA 0) 95))⟩
  have h1 : Aside0 (W0.heap[w.heap.size + 1]? = some (.cells (tabA 0) 95 (0, 0))) := ⟨by subst aa; simpa using heap_alloc_new (w.alloc (.cells (tabA 0) 95)) (.cells (tabA 0) 95)⟩
  have hB : Aside0 (Below w.heap.size w W0) := ⟨by subst aa; exact ((Below.refl _ _).alloc (Nat.le_refl _) _).alloc (by simp) _⟩
  clear aa
  go_loopw [4] (fun i W => ∃ k : Nat, i = .int .i64 k ∧ Aside0 (k ≤ 16) ∧ Aside0 (W.heap[w.heap.size + 1]? = some (.cells (tabA k) 95 (0, 0))) ∧ Aside0 (W.heap[w.heap.size]? = some (.cells (tabA 0) 95 (0, 0))) ∧ Aside0 (Below w.heap.size w W)) (fun i _ => 16 - (intOf i).toNat)
  case atStart => exact ⟨0, rfl, ⟨by omega⟩, h1, h0, hB⟩
  case round =>
    clear h0 h1 hB
    obtain ⟨k, rfl, hk, h1, h0, hB⟩ := hrel
    by_cases hlt : (k : Int) < 16
    · have hd : decide ((k : Int) < 16) = true := decide_eq_true hlt
      have ac : 0 ≤ (k : Int) := by omega
      have hge : 0 ≤ (k : Int) := ac
      go_wp2
      have hsteps : ∀ j : Nat, 0 ≤ crcSteps j (k : Int) := fun j => crcSteps_nonneg j _ ac
      go_loop [3, 9] (fun x j => ∃ n : Nat, x = .int .u32 (crcSteps n (k : Int)) ∧ j = .int .i64 n ∧ Aside0 (n ≤ 4)) (fun _ j => 4 - (intOf j).toNat)
      case atStart => exact ⟨0, rfl, rfl, ⟨by omega⟩⟩
      case round =>
        obtain ⟨n, rfl, rfl, hn⟩ := hrel
        have ad := hsteps n
        clear hsteps
        by_cases hln : (n : Int) < 4
        · have hdn : decide ((n : Int) < 4) = true := decide_eq_true hln
          have ae : 0 ≤ (n : Int) := by omega
          by_cases hb : Go.bits .and .u32 (crcSteps n (k : Int)) 1 = 1
          · have hbb : (Go.bits .and .u32 (crcSteps n (k : Int)) 1 == 1) = true := beq_iff_eq.mpr hb
            have hst : crcStep (crcSteps n (k : Int)) = Go.bits .xor .u32 (crcSteps n (k : Int) / 2) 2197175160 := if_pos hb
            have HST := aK hst
            clear hst hb
            go_wp2
            go_round
            case rel => exact ⟨n + 1, by rw [crcSteps, HST.out], by go_num, ⟨by omega⟩⟩
            case measure => simp [intOf]; omega
          · have hbb : (Go.bits .and .u32 (crcSteps n (k : Int)) 1 == 1) = false := beq_eq_false_iff_ne.mpr hb
            have hst : crcStep (crcSteps n (k : Int)) = crcSteps n (k : Int) / 2 := if_neg hb
            have HST := aK hst
            clear hst hb
            go_wp2
            go_round
            case rel => exact ⟨n + 1, by rw [crcSteps, HST.out], by go_num, ⟨by omega⟩⟩
            case measure => simp [intOf]; omega
        · have hdn : decide ((n : Int) < 4) = false := decide_eq_false hln
          obtain rfl : n = 4 := by have := hn.out; omega
          have hv : tabV k = crcSteps 4 (k : Int) := rfl
          generalize crcSteps 4 (k : Int) = v at *
          have HV := aK hv
          clear hv
          have ab : k < 16 := by omega
          have af : wr.cell? ⟨w.heap.size + 1, k, none⟩ = some (.int .u32 0) := by
            rw [blk_cell h1.out k]; simp [tabA, ab]
          have ag : wr.frozen? ⟨w.heap.size + 1, k, none⟩ = false := blk_frozen h1.out k
          go_wp2
          go_roundw
          case rel =>
            refine ⟨k + 1, by go_num, ⟨by omega⟩, ⟨?_⟩, ⟨blk_far h0.out (by simp) _⟩, ⟨hB.out.setCell (by simp) _⟩⟩
            rw [← tabA_set k (by omega), HV.out]
            exact blk_set h1.out k _
          case measure => simp [intOf]; omega
    · have hd : decide ((k : Int) < 16) = false := decide_eq_false hlt
      obtain rfl : k = 16 := by have := hk.out; omega
      have hsz : (Tryz.prog.info? 95).map (·.size) = some (tabA 16).size := by rw [tabA_size]; kernel_rfl
      have H1 := aK h1.out
      have HZ := aK hsz
      clear hsz
      go_wp2_with (first | (refine wpList_load_row rfl 95 (.tmp 1) rfl (w.heap.size + 1) rfl 95 (tabA 16) (0, 0) _ H1.out Tryz.underlying95 rfl HZ.out ?_) | (refine wpList_store_row rfl 95 (.tmp 0) (.tmp 24) rfl w.heap.size (tabA 16) rfl rfl 95 (tabA 0) h0.out HZ.out (by rw [tabA_size, tabA_size]) tabA_one ?_))
      have hz := setRow_heap wr w.heap.size (tabA 0) (tabA 16) 95 (0, 0) h0.out
      refine bodyPost_ret (results_cell_row rfl _ _ w.heap.size 95 (tabA 16) (0, 0) _ rfl hz Tryz.underlying95 rfl HZ.out) rfl ?_
      exact ⟨rfl, ⟨hB.out.os, hB.out.tape, hB.out.output, by simpa using hB.out.size, fun i hi => (setRow_other _ _ _ _ (Nat.ne_of_lt hi)).trans (hB.out.block i hi)⟩⟩
def slices_Clone_int_int.f (l0 : List Int) : Option (List Int) := (some (([] : List Int) : List Int)).bind fun aa => (if aa.length + l0.length < 17592186044416 then (some (aa ++ l0)) else (none))
theorem slices_Clone_int_int.calls (A0 : Option Addr) (c0 : Nat) (l0 : List Int) (r : List Int) (w : World) (ak : Kd.C (Kd.int .i64) w A0 l0.length l0) (ao : l0.length ≤ c0) (h : slices_Clone_int_int.f l0 = some r) :
  Calls Tryz.prog 78 #[.slice A0 l0.length c0] w fun e w' => ∃ ap : Value,e = .returned (ap) ∧ Kd.R (Kd.int .i64) 3 w' w.heap.size (fun _ => True) ap r ∧ Below w.heap.size w w' := by
 cases A0 with
|none =>
  obtain rfl : l0 = [] := by
   rcases Nat.eq_zero_or_pos l0.length with hl|hl
   ·exact List.eq_nil_of_length_eq_zero hl
   ·obtain ⟨ad,ea,_⟩ := ak.2.2 hl
    cases ea
  have hr : r = [] := by simpa [slices_Clone_int_int.f] using h.symm
  subst hr
  clear h
  go_enter Tryz.func78,Tryz.ntmps78
  go_wp2
  go_ret
  exact ⟨_,rfl,Kd.R_nil _ _ _ _ _,Below.refl _ _⟩
|some ad0 =>
  have aq := aK ak
  have au := aK ao
  clear ak ao
  have HB := aK (Below.refl w.heap.size w)
  have H : ((some (([] : List Int) : List Int)).bind fun aa => (if aa.length + l0.length < 17592186044416 then (some (aa ++ l0)) else (none))) = some r := h
  clear h
  obtain ⟨aa,ab⟩ : ∃ y_ : List Int,y_ = (([] : List Int)) := ⟨_,rfl⟩
  replace H : (if aa.length + l0.length < 17592186044416 then (some (aa ++ l0)) else (none)) = some r := by first|(rw [ab];with_reducible exact H)|(have af := (Option.bind_some _ _).symm.trans H;rw [ab];with_reducible exact af)|(have af := (Option.bind_some _ _).symm.trans H;with_reducible exact af)|with_reducible exact H|(rw [ab];exact H)|exact H
  have ae := aK ab
  clear ab
  by_cases c2 : aa.length + l0.length < 17592186044416
  ·rw [if_pos c2] at H
   have al := aK c2
   clear c2
   obtain ⟨am,ac⟩ : ∃ y_ : List Int,y_ = (aa ++ l0) := ⟨_,rfl⟩
   replace H : (some am) = some r := by first|(rw [ac];with_reducible exact H)|(have af := (Option.bind_some _ _).symm.trans H;rw [ac];with_reducible exact af)|(have af := (Option.bind_some _ _).symm.trans H;with_reducible exact af)|with_reducible exact H|(rw [ac];exact H)|exact H
   have ag := aK ac
   clear ac
   obtain rfl := Option.some.inj H
   go_enter Tryz.func78,Tryz.ntmps78
   go_wp2_with (first|((with_reducible refine gate_dst (N := 5) rfl ?_);refine Kd.R_lit (Kd.int .i64) _ 3 ?hg (N := 5) ?hd (xs := ([] : List Int)) (inner := []) (ok := fun _ => True) (okp := fun _ => True) ?hr ?hp (fun _ hk => hk) trivial (Below.refl _ _) (Nat.le_refl _) (by simp) ?_;(case hd => rfl);(case hg => rfl);(case hr => first|(go_simp;done)|(go_simp;rfl));(case hp => exact (Reps.none _ _));intro an w3 ah hb hg_ hnew_;clear hg_ hnew_;(first|rw [← ae.out] at ah|(simp only [Int.reduceToNat] at ah;rw [← ae.out] at ah));have ai := aK (Kd.R_lower ah (below_size (bM HB.out)));replace HB := aK (below_step (bM HB.out) hb);clear hb ah)|((with_reducible refine gate_builtin (b := .append) (xs := #[.tmp 5,.tmp 6]) rfl ?_);at_builtin;refine Kd.R_append_rows (Kd.int .i64) (w0 := w) w.heap.size rfl (.tmp 5) (.tmp 6) 27 3 (.int .i64 0) 8 rfl Tryz.underlying27 info3 rfl (by decide) (by omega) an aa l0 _ _ _ (fun _ => True) (fun _ => False) rfl rfl ?aO ?aR (fun _ _ h => h) (fun _ h => h.elim) ?aF ?aB ?aS ?aL ?_;(case aR => exact cM (Kd.C_below aq.out HB.out));(case aB => exact (bM HB.out));(case aF => exact (fun _ _ => trivial));(case aO => exact (rM ai.out));(case aS => exact (below_size (bM HB.out)));(case aL => have := al.out;omega);intro ar w5 ho hb hg hat;rw [← ag.out] at ho;replace HB := aK (hb);have aj := aK (ho);clear ho hb hg hat))
   go_ret
   exact ⟨_,by first|rfl|(simp [errW_none,errW_some] <;> rfl)|(simp [*,errW_none,errW_some] <;> rfl),rM aj.out,bM HB.out⟩
  ·rw [if_neg c2] at H
   exact absurd H (by simp)
open Go.Sort
theorem below_sorted {B : Nat} {w0 w : World} {g n : Nat} {d : Array Int} {os : Array Obj} (h : Below B w0 w) (hg : B ≤ g) (hB : B ≤ w.heap.size) : Below B w0 (grow (putRow (Value.int .i64) (Sort.ahead w n) g 0 d) os) :=
  (Lib.below_putRow (enc := Value.int .i64) (q := n) (d := d) h hg).trans (Lib.below_grow B _ (by rw [size_putRow]; exact hB) 0 os)
theorem own_sorted {w : World} {base e g n cap q : Nat} {zs ys : List Int} {os : Array Obj} (h : w.ownsRow base e 1 (.slice (some ⟨g, 0, none⟩) n cap) n (zs.map (Value.int .i64))) (hy : ys.length = n) :
    (grow (putRow (Value.int .i64) (Sort.ahead w q) g 0 ys.toArray) os).ownsRow base e 1 (.slice (some ⟨g, 0, none⟩) n cap) n (ys.map (Value.int .i64)) := by
  have h1 := Lib.ownsRow_putRow (q := q) (k := n) h hy (Nat.le_refl _)
  rw [List.take_of_length_le (by omega)] at h1
  exact Lib.ownsRow_grow h1 0 os
def slices_Sort_int_int.f (l0 : List Int) : Option (List Int) := if l0.length < 4611686018427387904 then some (sortd l0) else none
theorem slices_Sort_int_int.sorts {w W : World} {v : Value} {l r : List Int} (hR : Kd.R (Kd.int .i64) 3 W w.heap.size (fun _ => True) v l) (hB : Below w.heap.size w W) (hl : slices_Sort_int_int.f l = some r) :
    Calls Tryz.prog 79 #[v] W fun e w' => e = .returned (.tuple #[]) ∧ Kd.R (Kd.int .i64) 3 w' w.heap.size (fun _ => True) v r ∧ Below w.heap.size w w' := by
  unfold slices_Sort_int_int.f at hl
  split at hl
  case isFalse => cases hl
  rename_i hl0
  obtain rfl := Option.some.inj hl
  have ho := Kd.own_of_R hR
  by_cases hv : v = .slice none 0 0
  · subst hv
    obtain rfl : l = [] := by
      rcases ho.2 with ⟨_, h0⟩ | ⟨g, cap, cur, h1, _⟩
      · exact List.eq_nil_of_length_eq_zero h0
      · cases h1
    refine (Tryz.slices_Sort_int_none none 0 W).mono ?_
    rintro e w2 ⟨rfl, rfl⟩
    have e1 : sortd ([] : List Int) = [] := List.eq_nil_of_length_eq_zero (by have := sortd_len []; simpa using this)
    rw [e1]
    exact ⟨rfl, hR, hB⟩
  · obtain ⟨g, cap, rfl, hg, hlt, hn, hm, hll, hH⟩ := Lib.holds_of_ownsRow ho hv
    refine (Tryz.slices_Sort_int g 0 cap l W hH hlt hl0).mono ?_
    rintro e w2 ⟨rfl, n, os, rfl⟩
    have ho2 := own_sorted (q := n) (os := os) ho (sortd_len l)
    have hB2 := below_sorted (n := n) (d := (sortd l).toArray) (os := os) hB hg (by omega)
    refine ⟨rfl, Kd.R_of_own ?_ (fun _ _ => trivial), hB2⟩
    rw [sortd_len]
    exact ho2
def posting_unique_int.f (l0 : List Int) : Option (List Int) := if l0.length < 1000000000 then some (uniq l0) else none
theorem posting_unique_int.calls (A0 : Option Addr) (c0 : Nat) (l0 : List Int) (r : List Int) (w : World) (ae : Kd.C (Kd.int .i64) w A0 l0.length l0) (af : l0.length ≤ c0) (h : posting_unique_int.f l0 = some r) :
    Calls Tryz.prog 69 #[.slice A0 l0.length c0] w fun e w' => ∃ ag : Value, e = .returned (ag) ∧ Kd.R (Kd.int .i64) 3 w' w.heap.size (fun _ => True) ag r ∧ Below w.heap.size w w' := by
  unfold posting_unique_int.f at h
  split at h
  case isFalse => cases h
  rename_i hl
  obtain rfl : uniq l0 = r := Option.some.inj h
  clear h
  have hcl := aK (slices_Clone_int_int.calls A0 c0 l0 l0 w ae af (by simp [slices_Clone_int_int.f]; omega))
  clear ae af
  have hl' := aK hl
  clear hl
  go_enter Tryz.func69, Tryz.ntmps69
  go_wp2_with fail
  go_at_call 78
  refine hcl.out.mono ?_
  rintro e w1 ⟨v, rfl, hR, hB⟩
  clear hcl
  have ho := Kd.own_of_R hR
  have e1 := aK (show uniq ([] : List Int) = [] from List.eq_nil_of_length_eq_zero (by have := uniq_len []; simpa using this))
  clear hR
  by_cases hv : v = .slice none 0 0
  · subst hv
    obtain rfl : l0 = [] := by
      rcases ho.2 with ⟨_, h0⟩ | ⟨g, cap, cur, h1, _⟩
      · exact List.eq_nil_of_length_eq_zero h0
      · cases h1
    have HB := aK hB
    clear hB ho
    go_wp2_with fail
    go_at_call 79
    refine (Tryz.slices_Sort_int_none none 0 w1).mono ?_
    rintro e w2 ⟨rfl, rfl⟩
    go_wp2
    go_ret
    rw [e1.out]
    exact ⟨_, rfl, Kd.R_nil _ _ _ _ _, HB.out⟩
  · obtain ⟨g, cap, rfl, hg, hlt, hn, hm, hll, hH⟩ := Lib.holds_of_ownsRow ho hv
    have hs := aK (Tryz.slices_Sort_int g 0 cap l0 w1 hH hlt (by have := hl'.out; omega))
    have HB := aK hB
    have HO := aK ho
    have HG := aK (And.intro hg (And.intro hlt hn))
    clear hB ho hv hH hg hlt hm hll hn e1
    go_wp2_with fail
    go_at_call 79
    refine hs.out.mono ?_
    rintro e w2 ⟨rfl, n, os, rfl⟩
    clear hs
    obtain ⟨hg, hlt, hn⟩ := HG.out
    have aa := own_sorted (q := n) (os := os) HO.out (sortd_len l0)
    have ab := below_sorted (n := n) (d := (sortd l0).toArray) (os := os) HB.out hg (by omega)
    rw [show (l0.mergeSort fun x y => decide (x ≤ y)) = sortd l0 from rfl]
    clear HB HO HG
    generalize grow (putRow (Value.int .i64) (Sort.ahead w1 n) g 0 (sortd l0).toArray) os = w2 at aa ab ⊢
    obtain ⟨g', cap', e1, _, ac, ai, aj, ad, ah⟩ := Lib.holds_of_ownsRow aa (by simp)
    obtain ⟨rfl, rfl⟩ : g = g' ∧ cap = cap' := by
      injection e1 with e1 _ e3
      injection e1 with e1
      injection e1 with e1
      exact ⟨e1, e3⟩
    clear e1
    have hc := Tryz.slices_Compact (Value.int .i64) (fun _ => rfl) (EqlAt.intD _ _ _) (NeqAt.intD _ _ _) 0 Tryz.zeroValue3 g 0 cap (sortd l0).toArray w2 ah (by simp [sortd_len]; have := hl'.out; omega) (by simp [sortd_len]; omega)
    rw [show Lib.compactUpTo (sortd l0).toArray (sortd l0).toArray.size = uniq l0 from rfl, show (sortd l0).toArray.size = l0.length from by simp [sortd_len]] at hc
    have hc' := aK hc
    have HB := aK ab
    have HO := aK aa
    have HG := aK hg
    clear hc ab aa hg hlt hn ac ai aj ad ah
    go_wp2_with fail
    go_at_call 80
    refine hc'.out.mono ?_
    rintro e w3 ⟨rfl, q, rfl⟩
    clear hc'
    go_wp2
    go_ret
    have hul := uniq_len l0
    have h3 := Lib.ownsRow_putRow (q := q) (k := (uniq l0).length) (ys := uniq l0 ++ List.replicate (l0.length - (uniq l0).length) 0) HO.out (by simp; omega) hul
    rw [List.take_append_of_le_length (Nat.le_refl _), List.take_length] at h3
    exact ⟨_, rfl, Kd.R_of_own h3 (fun _ _ => trivial), Lib.below_putRow HB.out HG.out⟩
@[go_sem] theorem run_store_func_ {P : Program} {w : World} {a : Addr} {m : Mode} (fn : Fn) (first captured : Array Value) : (store a (.func fn first captured) m).run P w = stored P w a (.func fn first captured) m := run_store P w a _ m rfl
set_option maxHeartbeats 2000000 in
set_option maxRecDepth 1000000 in
theorem bsearch_none (a : Option Addr) (c : Nat) (x : Int) (w : World) :
    Calls Tryz.prog 84 #[.slice a 0 c, .int .i64 x] w fun e w' => e = .returned (.tuple #[.int .i64 0, .bool false]) ∧ w' = w := by
  go_enter Tryz.func84, Tryz.ntmps84
  go_wp2
  go_loopg [7, 8] 0 (fun _ s7 s8 wr => s7 = .int .i64 0 ∧ s8 = .int .i64 0 ∧ wr = w)
  case atStart => exact ⟨rfl, rfl, rfl⟩
  case round =>
    obtain ⟨rfl, rfl, rfl⟩ := hrel
    go_wp2
    go_ret2
    exact ⟨rfl, rfl⟩
set_option maxHeartbeats 2000000 in
set_option maxRecDepth 1000000 in
theorem idxfunc_none (a : Option Addr) (c : Nat) (fv : Value) (w : World) :
    Calls Tryz.prog 82 #[.slice a 0 c, fv] w fun e w' => e = .returned (.int .i64 (-1)) ∧ w' = w := by
  go_enter Tryz.func82, Tryz.ntmps82
  go_wp2
  go_loopg [5, 8] 0 (fun _ _ s8 wr => s8 = .int .i64 0 ∧ wr = w)
  case atStart => exact ⟨rfl, rfl⟩
  case round =>
    obtain ⟨rfl, rfl⟩ := hrel
    go_wp2
    go_ret
    exact ⟨rfl, rfl⟩
set_option maxHeartbeats 2000000 in
set_option maxRecDepth 1000000 in
theorem delfunc_none (a : Option Addr) (c : Nat) (fv : Value) (w : World) :
    Calls Tryz.prog 71 #[.slice a 0 c, fv] w fun e w' => e = .returned (.slice a 0 c) ∧ w' = w := by
  go_enter Tryz.func71, Tryz.ntmps71
  go_wp2_with (go_at_call 82; refine (idxfunc_none _ _ _ _).mono ?_; rintro e w' ⟨rfl, rfl⟩)
  go_ret
  exact ⟨rfl, rfl⟩
def SetIn (W : World) (B : Nat) (s : List Int) : Prop :=
  W.cell? ⟨B, 0, none⟩ = some (.slice none 0 0) ∧ s = [] ∨ ∃ g cap, W.cell? ⟨B, 0, none⟩ = some (.slice (some ⟨g, 0, none⟩) s.length cap) ∧ ∀ j, j < s.length → W.cell? ⟨g, 0 + j, none⟩ = some (.int .i64 (s.getD j 0))
theorem in1_gives {W : World} {B : Nat} {s : List Int} (h : SetIn W B s) (hs : s.Pairwise (· < ·)) (hl : s.length < 1000000000) (x : Int) :
    FnGives Tryz.prog 83 #[.pointer (some ⟨B, 0, none⟩)] #[.int .i64 x] (.bool (s.contains x)) W := by
  show Calls Tryz.prog 83 #[.int .i64 x, .pointer (some ⟨B, 0, none⟩)] W _
  rcases h with ⟨hc, rfl⟩ | ⟨g, cap, hc, hr⟩
  · have hb := aK (bsearch_none none 0 x W)
    go_enter Tryz.func83, Tryz.ntmps83
    go_wp2_with (go_at_call 84; refine hb.out.mono ?_; rintro e w' ⟨rfl, rfl⟩)
    go_ret
    exact ⟨rfl, 0, rfl⟩
  · have hb0 := Tryz.slices_BinarySearch_int g 0 s.length cap s x W (Nat.le_refl _) (by omega) hr (by rw [List.take_length]; exact hs.imp (fun h => Int.le_of_lt h))
    rw [List.take_length] at hb0
    have hb := aK hb0
    clear hb0 hr
    go_enter Tryz.func83, Tryz.ntmps83
    go_wp2_with (go_at_call 84; refine hb.out.mono ?_; rintro e w' ⟨rfl, q, rfl⟩)
    go_ret
    exact ⟨by simp, _, rfl⟩
theorem SetIn.later {W W1 : World} {B : Nat} {s : List Int} (h : SetIn W B s) (hc : ∀ a : Addr, (a.block = B ∨ ∃ g cap, W.cell? ⟨B, 0, none⟩ = some (.slice (some ⟨g, 0, none⟩) s.length cap) ∧ a.block = g) → W1.cell? a = W.cell? a) : SetIn W1 B s := by
  rcases h with ⟨h1, h2⟩ | ⟨g, cap, h1, h2⟩
  · exact .inl ⟨(hc _ (.inl rfl)).trans h1, h2⟩
  · exact .inr ⟨g, cap, (hc _ (.inl rfl)).trans h1, fun j hj => (hc _ (.inr ⟨g, cap, h1, rfl⟩)).trans (h2 j hj)⟩
def BoxIn (base : Nat) (W : World) (B : Nat) (s : List Int) : Prop :=
  base ≤ B ∧ B < W.heap.size ∧ (W.cell? ⟨B, 0, none⟩ = some (.slice none 0 0) ∧ s = [] ∨ ∃ g cap, base ≤ g ∧ g < W.heap.size ∧ W.cell? ⟨B, 0, none⟩ = some (.slice (some ⟨g, 0, none⟩) s.length cap) ∧ ∀ j, j < s.length → W.cell? ⟨g, 0 + j, none⟩ = some (.int .i64 (s.getD j 0)))
theorem BoxIn.set {base : Nat} {W : World} {B : Nat} {s : List Int} (h : BoxIn base W B s) : SetIn W B s := by
  rcases h.2.2 with h1 | ⟨g, cap, _, _, h1, h2⟩
  · exact .inl h1
  · exact .inr ⟨g, cap, h1, h2⟩
theorem BoxIn.same {base : Nat} {W W1 : World} {B : Nat} {s : List Int} (h : BoxIn base W B s) (hs : W.heap.size ≤ W1.heap.size) (hc : ∀ a : Addr, base ≤ a.block → a.block < W.heap.size → W1.cell? a = W.cell? a) : BoxIn base W1 B s := by
  obtain ⟨h0, h1, h2⟩ := h
  refine ⟨h0, by omega, ?_⟩
  rcases h2 with ⟨h3, h4⟩ | ⟨g, cap, h5, h6, h3, h4⟩
  · exact .inl ⟨(hc _ h0 h1).trans h3, h4⟩
  · exact .inr ⟨g, cap, h5, by omega, (hc _ h0 h1).trans h3, fun j hj => (hc _ h5 h6).trans (h4 j hj)⟩
theorem BoxIn.below {base : Nat} {W W1 : World} {B : Nat} {s : List Int} (h : BoxIn base W B s) (hb : Below W.heap.size W W1) : BoxIn base W1 B s :=
  h.same hb.size (fun _ _ h2 => hb.cell h2)
set_option maxHeartbeats 2000000 in
set_option maxRecDepth 1000000 in
theorem in_calls (A0 : Option Addr) (c0 : Nat) (l0 : List Int) (w : World) (hr0 : Kd.C (Kd.int .i64) w A0 l0.length l0) (hc0 : l0.length ≤ c0) (hl : l0.length < 1000000000) :
    Calls Tryz.prog 72 #[.slice A0 l0.length c0] w fun e w' => ∃ B, e = .returned (.func (.func 83) #[] #[.pointer (some ⟨B, 0, none⟩)]) ∧ BoxIn w.heap.size w' B (uniq l0) ∧ Below w.heap.size w w' := by
  have hcl := aK (posting_unique_int.calls A0 c0 l0 (uniq l0) w hr0 hc0 (by simp [posting_unique_int.f]; omega))
  clear hr0 hc0
  have hl' := aK hl
  clear hl
  go_enter Tryz.func72, Tryz.ntmps72
  go_wp2_with fail
  go_at_call 69
  refine hcl.out.mono ?_
  rintro e w1 ⟨v, rfl, hR, hB⟩
  clear hcl
  have ho := Kd.own_of_R hR
  clear hR
  by_cases hv : v = .slice none 0 0
  · subst hv
    have e1 : uniq l0 = [] := by
      rcases ho.2 with ⟨_, h0⟩ | ⟨g, cap, cur, h1, _⟩
      · exact List.eq_nil_of_length_eq_zero h0
      · cases h1
    have H1 := aK e1
    have HB := aK hB
    clear hB ho e1
    go_wp2
    go_ret
    refine ⟨_, rfl, ⟨HB.out.size, by simp, .inl ⟨by simp, H1.out⟩⟩, ?_⟩
    exact below_alloc HB.out _
  · obtain ⟨g, cap, rfl, hg, hlt, hn, hm, hll, hH⟩ := Lib.holds_of_ownsRow ho hv
    have HO := aK hH
    have HB := aK hB
    have HG := aK (And.intro hg hlt)
    clear ho hB hv hH hg hlt hn hm hll
    go_wp2
    go_ret
    obtain ⟨hg, hlt⟩ := HG.out
    refine ⟨_, rfl, ⟨HB.out.size, by simp, .inr ⟨g, cap, hg, by simp; omega, by simp, fun j hj => ?_⟩⟩, below_alloc HB.out _⟩
    rw [(below_alloc (Below.refl w1.heap.size w1) _).cell (p := ⟨g, 0 + j, none⟩) hlt, (HO.out j (by simpa using hj)).1, getElem!_pos (uniq l0).toArray j (by simpa using hj)]
    simp [List.getD_eq_getElem?_getD, List.getElem?_eq_getElem hj]
theorem del_row {W w : World} {v : Value} {l : List Int} (p : Int → Bool) (g : Nat) (lb : Array Value) (eg : ∀ args w, (callFunc g args).run Tryz.prog w = .ok (.enter g args) w)
    (ho : W.ownsRow w.heap.size 3 1 v l.length (l.map (Value.int .i64))) (hB : Below w.heap.size w W) (hl : l.length < 1000000000)
    (hq : ∀ W' : World, W.heap.size ≤ W'.heap.size → (∀ a : Addr, a.block < W.heap.size → some a.block ≠ v.ownBlock → W'.cell? a = W.cell? a) → ∀ x : Int, FnGives Tryz.prog g lb #[.int .i64 x] (.bool (p x)) W') :
    Calls Tryz.prog 71 #[v, .func (.func g) #[] lb] W fun e w' => ∃ v', e = .returned v' ∧ Kd.R (Kd.int .i64) 3 w' w.heap.size (fun _ => True) v' (l.filter fun x => !p x) ∧ Below w.heap.size w w' := by
  by_cases hv : v = .slice none 0 0
  · subst hv
    obtain rfl : l = [] := by
      rcases ho.2 with ⟨_, h0⟩ | ⟨g, cap, cur, h1, _⟩
      · exact List.eq_nil_of_length_eq_zero h0
      · cases h1
    refine (delfunc_none _ _ _ _).mono ?_
    rintro e w' ⟨rfl, rfl⟩
    exact ⟨_, rfl, Kd.R_nil _ _ _ _ _, hB⟩
  · obtain ⟨b, cap, rfl, hg, hlt, hn, hm, hll, hH⟩ := Lib.holds_of_ownsRow ho hv
    refine (Tryz.slices_DeleteFunc (Value.int .i64) (fun _ => rfl) p g lb eg 0 Tryz.zeroValue3 b 0 cap l.toArray W (fun W' x hb => hq W' hb.size (fun a h1 _ => hb.cell h1) x)
      (fun n os dk x hd => hq _ (by unfold sortWorld; show W.heap.size ≤ ((putRow (Value.int .i64) (Sort.ahead W n) b 0 dk).heap ++ os).size; rw [Array.size_append, size_putRow]; exact Nat.le_add_right _ _) (fun a h1 h2 => by
        unfold sortWorld
        rw [cell?_grow _ _ _ (by rw [size_putRow]; exact h1), cell?_putRow_other _ _ b 0 _ _ (Or.inl (fun e => h2 (by rw [e]; rfl)))]
        rfl) x) hH (by simp; omega) (by simpa using hn)).mono ?_
    rintro e w' ⟨rfl, q, rfl⟩
    have hfl : (l.filter fun x => !p x).length ≤ l.length := List.length_filter_le _ _
    have h3 := Lib.ownsRow_putRow (q := q) (k := (l.filter fun x => !p x).length) (ys := (l.filter fun x => !p x) ++ List.replicate (l.length - (l.filter fun x => !p x).length) 0) ho (by simp; omega) hfl
    rw [List.take_append_of_le_length (Nat.le_refl _), List.take_length] at h3
    exact ⟨_, rfl, Kd.R_of_own h3 (fun _ _ => trivial), Lib.below_putRow hB hg⟩
def varint_width.l0 : Nat → List Int → Int → Int → Option (Int)
|0,_,_,_ => none
|k + 1,x0,x5,x6 => if x6 < x5 then (if 0 ≤ x6 then (if x6 < (x0.length : Int) then (if (rd x0 x6) < 128 then (some (wrap64 (x6 + 1))) else (varint_width.l0 k x0 x5 (wrap64 (x6 + 1)))) else (none)) else (none)) else (some 0)
def varint_width.f (k : Nat) (l0 : List Int) : Option (Int) := varint_width.l0 k l0 (l0.length : Int) 0
theorem varint_width.mono_l : ∀ k, (∀ y0 y1 y2, LeO (varint_width.l0 k y0 y1 y2) (varint_width.l0 (k + 1) y0 y1 y2))
|0 => fun _ _ _ r h => by simp [varint_width.l0] at h
|k + 1 => by
  have ih0 := varint_width.mono_l k
  ·intro y0 y1 y2
   unfold varint_width.l0
   repeat' (with_reducible first|exact ih0 _ _ _|exact LeO.refl _|exact LeO.none _|refine LeO.ite ?_ ?_|refine LeO.bind ?_ (fun _ => ?_))
theorem varint_width.mono : ∀ a0 k, LeO (varint_width.f k a0) (varint_width.f (k + 1) a0) := by
 intro a0 k
 have ih0 := varint_width.mono_l k
 unfold varint_width.f
 repeat' (with_reducible first|exact ih0 _ _ _|exact LeO.refl _|exact LeO.none _|refine LeO.ite ?_ ?_|refine LeO.bind ?_ (fun _ => ?_))
theorem varint_width.calls (k : Nat) (A0 : Option Addr) (c0 : Nat) (l0 : List Int) (r : Int) (w : World) (ai : Kd.C (Kd.int .u8) w A0 l0.length l0) (aj : l0.length ≤ c0) (h : varint_width.f k l0 = some r) :
  Calls Tryz.prog 59 #[.slice A0 l0.length c0] w fun e w' => e = .returned (.int .i64 r) ∧ Drawn0 w w' := by
 have ak := aK ai
 have ao := aK aj
 clear ai aj
 have H : (varint_width.l0 k l0 (l0.length : Int) 0) = some r := h
 clear h
 have H' := aK H
 clear H
 go_enter Tryz.func59,Tryz.ntmps59
 go_wp2
 go_loopg [6] k (fun kq v6 w' => ∃ (aa : Int),v6 = .int .i64 aa ∧ Aside0 (varint_width.l0 kq l0 (l0.length : Int) aa = some r) ∧ Aside0 (kq ≤ k) ∧ Drawn0 w w')
 case atStart => exact ⟨(0),(by first|rfl|(simp;done)|(simp [*];done)),H',⟨Nat.le_refl _⟩,by repeat (first|exact Drawn0.refl _|apply Drawn0.step)⟩
 case round =>
  clear H'
  obtain ⟨aa,rfl,HA,al,⟨m1,rfl⟩⟩ := hrel
  cases gk with
 |zero => exact absurd HA.out (by simp [varint_width.l0])
 |succ k1 =>
   have H := HA.out
   clear HA
   simp only [varint_width.l0] at H
   by_cases c2 : aa < (l0.length : Int)
   ·rw [if_pos c2] at H
    have ag := decide_eq_true c2
    clear c2
    obtain ⟨c3,H⟩ := iS H
    have am := decide_eq_true c3
    clear c3
    obtain ⟨c4,H⟩ := iS H
    have an := decide_eq_true c4
    clear c4
    by_cases c5 : (rd l0 aa) < 128
    ·rw [if_pos c5] at H
     have ah := decide_eq_true c5
     clear c5
     obtain rfl := Option.some.inj H
     have ab : 0 ≤ (aa : Int) := dA
     have ac : aa < (l0.length : Int) := dA
     obtain ⟨af,ae,ad⟩ := Kd.at_int ak.out aa ab ac
     cases ae
     replace ab := eq_true ab
     replace ac := eq_true ac
     go_wp2
     go_ret
     exact ⟨by first|rfl|(simp;done)|(simp [*];done),by repeat (first|exact Drawn0.refl _|apply Drawn0.step)⟩
    ·rw [if_neg c5] at H
     have ah := decide_eq_false c5
     clear c5
     have H' := aK H
     clear H
     have ab : 0 ≤ (aa : Int) := dA
     have ac : aa < (l0.length : Int) := dA
     obtain ⟨af,ae,ad⟩ := Kd.at_int ak.out aa ab ac
     cases ae
     replace ab := eq_true ab
     replace ac := eq_true ac
     go_wp2
     go_roundg k1
     case measure => have := al.out;omega
     case rel => exact ⟨(wrap64 (aa + 1)),(by first|rfl|(simp;done)|(simp [*];done)),H',⟨by have := al.out;omega⟩,by repeat (first|exact Drawn0.refl _|apply Drawn0.step)⟩
   ·rw [if_neg c2] at H
    have ag := decide_eq_false c2
    clear c2
    obtain rfl := Option.some.inj H
    go_wp2
    go_ret
    exact ⟨by first|rfl|(simp;done)|(simp [*];done),by repeat (first|exact Drawn0.refl _|apply Drawn0.step)⟩
mutual
def varint_Get.j0 : Nat → List Int → Int → Bool → Option (Int × Int × Int)
|0,_,_,_ => none
|k + 1,x0,x1,ab => if ab = true then (some (0,0,2)) else (if 0 ≤ x1 then (if x1 ≤ (x0.length : Int) then ((varint_width.f k (x0.drop (x1 : Int).toNat)).bind fun aa => (if aa = 0 then (some (0,0,5)) else (if aa > 9 then (some (0,0,4)) else (varint_Get.l0 k x0 x1 aa 0 aa 0)))) else (none)) else (none))
def varint_Get.l0 : Nat → List Int → Int → Int → Int → Int → Int → Option (Int × Int × Int)
|0,_,_,_,_,_,_ => none
|k + 1,x0,x1,x7,x8,ab,aa => if aa < ab then (if 0 ≤ (wrap64 (x1 + aa)) then (if (wrap64 (x1 + aa)) < (x0.length : Int) then (if 0 ≤ (wrap64 (7 * aa)) then (varint_Get.l0 k x0 x1 x7 (Go.bits .or .u64 x8 (shl .u64 (IntKind.u64.wrap (Go.bits .and .u8 (rd x0 (wrap64 (x1 + aa))) 127)) (wrap64 (7 * aa)))) ab (wrap64 (aa + 1))) else (none)) else (none)) else (none)) else (if x8 > 4611686018427387904 then (some (0,0,4)) else (if x7 > 1 then (if 0 ≤ (wrap64 ((wrap64 (x1 + x7)) - 1)) then (if (wrap64 ((wrap64 (x1 + x7)) - 1)) < (x0.length : Int) then (if (rd x0 (wrap64 ((wrap64 (x1 + x7)) - 1))) = 0 then (some (0,0,3)) else (some (wrap64 (x8),wrap64 (x1 + x7),0))) else (none)) else (none)) else (some (wrap64 (x8),wrap64 (x1 + x7),0))))
end
def varint_Get.f (k : Nat) (l0 : List Int) (a1 : Int) : Option (Int × Int × Int) := if a1 < 0 then (varint_Get.j0 k l0 a1 true) else (varint_Get.j0 k l0 a1 (decide (a1 > (l0.length : Int))))
theorem varint_Get.mono_l : ∀ k, (∀ y0 y1 y2, LeO (varint_Get.j0 k y0 y1 y2) (varint_Get.j0 (k + 1) y0 y1 y2)) ∧ (∀ y0 y1 y2 y3 y4 y5, LeO (varint_Get.l0 k y0 y1 y2 y3 y4 y5) (varint_Get.l0 (k + 1) y0 y1 y2 y3 y4 y5))
|0 => ⟨fun _ _ _ r h => by simp [varint_Get.j0] at h,fun _ _ _ _ _ _ r h => by simp [varint_Get.l0] at h⟩
|k + 1 => by
  obtain ⟨ih0,ih1⟩ := varint_Get.mono_l k
  refine ⟨?_,?_⟩
  ·intro y0 y1 y2
   unfold varint_Get.j0
   repeat' (with_reducible first|exact ih1 _ _ _ _ _ _|exact varint_width.mono _ _|exact LeO.refl _|exact LeO.none _|refine LeO.ite ?_ ?_|refine LeO.bind ?_ (fun _ => ?_))
  ·intro y0 y1 y2 y3 y4 y5
   unfold varint_Get.l0
   repeat' (with_reducible first|exact ih1 _ _ _ _ _ _|exact LeO.refl _|exact LeO.none _|refine LeO.ite ?_ ?_|refine LeO.bind ?_ (fun _ => ?_))
theorem varint_Get.mono : ∀ a0 a1 k, LeO (varint_Get.f k a0 a1) (varint_Get.f (k + 1) a0 a1) := by
 intro a0 a1 k
 obtain ⟨ih0,ih1⟩ := varint_Get.mono_l k
 unfold varint_Get.f
 repeat' (with_reducible first|exact ih0 _ _ _|exact ih1 _ _ _ _ _ _|exact varint_width.mono _ _|exact LeO.refl _|exact LeO.none _|refine LeO.ite ?_ ?_|refine LeO.bind ?_ (fun _ => ?_))
theorem varint_Get.calls (k : Nat) (A0 : Option Addr) (c0 : Nat) (l0 : List Int) (a1 : Int) (r1 : Int) (r2 : Int) (r3 : Int) (w : World) (bj : Kd.C (Kd.int .u8) w A0 l0.length l0) (bk : l0.length ≤ c0) (h : varint_Get.f k l0 a1 = some (r1, r2, r3)) :
  Calls Tryz.prog 32 #[.slice A0 l0.length c0,.int .i64 a1] w fun e w' => e = .returned (.tuple #[.int .i64 r1,.int .i64 r2,.int .i64 r3]) ∧ Drawn0 w w' := by
 have aI := aK bj
 have a3 := aK bk
 clear bj bk
 have H : (if a1 < 0 then (varint_Get.j0 k l0 a1 true) else (varint_Get.j0 k l0 a1 (decide (a1 > (l0.length : Int))))) = some (r1,r2,r3) := h
 clear h
 have a4 := aK H
 clear H
 go_enter Tryz.func32,Tryz.ntmps32
 go_upto_region 1 with (fail)
 go_cut [17] (fun bE wc => ∃ (kq : Nat) (ao : Bool),bE = .bool ao ∧ Aside0 (varint_Get.j0 kq l0 a1 ao = some (r1,r2,r3)) ∧ Aside0 (kq ≤ k) ∧ Drawn0 w wc)
 case first =>
  have H := a4.out
  clear a4
  by_cases c4 : a1 < 0
  ·rw [if_pos c4] at H
   have ap := decide_eq_true c4
   clear c4
   (first|rw [ap]|(simp only [i64_w,i32_w];rw [ap])|rw [c4b1]|skip)
   have H' := aK H
   clear H
   go_wp2
   go_meet
   case rel => exact ⟨_,(true),(by first|rfl|(simp;done)|(simp [*];done)),H',⟨by first|omega|exact Nat.le_refl _⟩,by repeat (first|exact Drawn0.refl _|apply Drawn0.step)⟩
  ·rw [if_neg c4] at H
   have ap := decide_eq_false c4
   clear c4
   (first|rw [ap]|(simp only [i64_w,i32_w];rw [ap])|rw [c4b1]|skip)
   have H' := aK H
   clear H
   go_wp2
   go_meet
   case rel => exact ⟨_,(decide (a1 > (l0.length : Int))),(by first|rfl|(simp;done)|(simp [*];done)),H',⟨by first|omega|exact Nat.le_refl _⟩,by repeat (first|exact Drawn0.refl _|apply Drawn0.step)⟩
 case rest =>
  clear a4
  try clear p2
  obtain ⟨kq,ao,rfl,HA,bm,⟨bO,rfl⟩⟩ := hcut
  cases kq with
 |zero => exact absurd HA.out (by simp [varint_Get.j0])
 |succ kj2 =>
   have H := HA.out
   clear HA
   simp only [varint_Get.j0] at H
   by_cases c5 : ao = true
   ·subst c5
    rw [if_pos rfl] at H
    simp only [Option.some.injEq,Prod.mk.injEq] at H
    obtain ⟨rfl,rfl,rfl⟩ := H
    go_wp2
    go_ret3
    exact ⟨by first|rfl|(simp;done)|(simp [*];done),by repeat (first|exact Drawn0.refl _|apply Drawn0.step)⟩
   ·replace c5 := Bool.eq_false_iff.mpr c5
    subst c5
    rw [if_neg (show ¬ (false = true) by decide)] at H
    by_cases c6 : 0 ≤ a1
    ·rw [if_pos c6] at H
     have a5 := eq_true c6
     have a6 := decide_eq_true c6
     clear c6
     obtain ⟨c7,H⟩ := iS H
     have a7 := eq_true c7
     have a8 := decide_eq_true c7
     clear c7
     replace H := Option.bind_eq_some_iff.mp H
     obtain ⟨ab,bn,H⟩ := H
     have A8 := aK bn
     clear bn
     by_cases c9 : ab = 0
     ·rw [if_pos c9] at H
      have aN := beq_iff_eq.mpr c9
      have aO := bne_eq_false_iff_eq.mpr c9
      clear c9
      simp only [Option.some.injEq,Prod.mk.injEq] at H
      obtain ⟨rfl,rfl,rfl⟩ := H
      obtain ⟨bF,aw,_,ax,_⟩ := info_parts info5
      obtain ⟨bH,a9,aP,aQ⟩ := print_drop_of (P := Tryz.prog) (Value.int .u8) 0 31 5 .i64 Tryz.underlying31 aw ax A0 c0 l0 a1 (dA) (dA) a3.out
      have af := aK (Kd.C_of_reads (h1 := fun _ => rfl) (aP _ (Kd.reads_of_C aI.out)))
      have ag := aK aQ
      clear aP aQ aw ax
      go_wp2_with (first|((with_reducible refine gate_callee (f := 59) rfl ?_);refine goesL_ (some 21) rfl rfl Tryz.func59 (by kernel_rfl) rfl #[.slice bH (l0.drop (a1 : Int).toNat).length (c0 - a1.toNat)] rfl (by (try simp only [z4_,z5_,z6_]);first|done|(rw [show (l0.drop (a1 : Int).toNat).length = (l0.length - a1.toNat) from List.length_drop] <;> rfl)|rfl|(simp only [z7_,z8_];rfl)) ?_;(with_reducible refine (varint_width.calls kj2 _ _ (l0.drop (a1 : Int).toNat) ab _ ?ah ?ai A8.out).mono ?_);(case ah => exact cM af.out);(case ai => exact ag.out);rintro e w' ⟨rfl,⟨nd,rfl⟩⟩;refine ⟨_,rfl,?_⟩))
      go_ret3
      exact ⟨by first|rfl|(simp;done)|(simp [*];done),by repeat (first|exact Drawn0.refl _|apply Drawn0.step)⟩
     ·rw [if_neg c9] at H
      have aN := beq_eq_false_iff_ne.mpr c9
      have aO := bne_iff_ne.mpr c9
      by_cases aD : ab > 9
      ·rw [if_pos aD] at H
       have ay := decide_eq_true aD
       clear aD
       simp only [Option.some.injEq,Prod.mk.injEq] at H
       obtain ⟨rfl,rfl,rfl⟩ := H
       obtain ⟨bI,az,_,aA,_⟩ := info_parts info5
       obtain ⟨bJ,ba,aR,aS⟩ := print_drop_of (P := Tryz.prog) (Value.int .u8) 0 31 5 .i64 Tryz.underlying31 az aA A0 c0 l0 a1 (dA) (dA) a3.out
       have af := aK (Kd.C_of_reads (h1 := fun _ => rfl) (aR _ (Kd.reads_of_C aI.out)))
       have ag := aK aS
       clear aR aS az aA
       go_wp2_with (first|((with_reducible refine gate_callee (f := 59) rfl ?_);refine goesL_ (some 21) rfl rfl Tryz.func59 (by kernel_rfl) rfl #[.slice bJ (l0.drop (a1 : Int).toNat).length (c0 - a1.toNat)] rfl (by (try simp only [z4_,z5_,z6_]);first|done|(rw [show (l0.drop (a1 : Int).toNat).length = (l0.length - a1.toNat) from List.length_drop] <;> rfl)|rfl|(simp only [z7_,z8_];rfl)) ?_;(with_reducible refine (varint_width.calls kj2 _ _ (l0.drop (a1 : Int).toNat) ab _ ?ah ?ai A8.out).mono ?_);(case ah => exact cM af.out);(case ai => exact ag.out);rintro e w' ⟨rfl,⟨nd,rfl⟩⟩;refine ⟨_,rfl,?_⟩))
       go_ret3
       exact ⟨by first|rfl|(simp;done)|(simp [*];done),by repeat (first|exact Drawn0.refl _|apply Drawn0.step)⟩
      ·rw [if_neg aD] at H
       have ay := decide_eq_false aD
       clear aD
       have H' := aK H
       clear H
       obtain ⟨bK,aB,_,aC,_⟩ := info_parts info5
       obtain ⟨bL,bb,aT,aU⟩ := print_drop_of (P := Tryz.prog) (Value.int .u8) 0 31 5 .i64 Tryz.underlying31 aB aC A0 c0 l0 a1 (dA) (dA) a3.out
       have af := aK (Kd.C_of_reads (h1 := fun _ => rfl) (aT _ (Kd.reads_of_C aI.out)))
       have ag := aK aU
       clear aT aU aB aC
       go_wp2_with (first|((with_reducible refine gate_callee (f := 59) rfl ?_);refine goesL_ (some 21) rfl rfl Tryz.func59 (by kernel_rfl) rfl #[.slice bL (l0.drop (a1 : Int).toNat).length (c0 - a1.toNat)] rfl (by (try simp only [z4_,z5_,z6_]);first|done|(rw [show (l0.drop (a1 : Int).toNat).length = (l0.length - a1.toNat) from List.length_drop] <;> rfl)|rfl|(simp only [z7_,z8_];rfl)) ?_;(with_reducible refine (varint_width.calls kj2 _ _ (l0.drop (a1 : Int).toNat) ab _ ?ah ?ai A8.out).mono ?_);(case ah => exact cM af.out);(case ai => exact ag.out);rintro e w' ⟨rfl,⟨nd,rfl⟩⟩;refine ⟨_,rfl,?_⟩))
       go_loopg [8,27] kj2 (fun kq v8 bN w' => ∃ (ae : Int) (aa : Int),v8 = .int .u64 ae ∧ bN = .int .i64 aa ∧ Aside0 (varint_Get.l0 kq l0 a1 ab ae ab aa = some (r1,r2,r3)) ∧ Aside0 (kq ≤ kj2) ∧ Drawn0 w w')
       case atStart => exact ⟨(0),(0),(by first|rfl|(simp;done)|(simp [*];done)),(by first|rfl|(simp;done)|(simp [*];done)),H',⟨Nat.le_refl _⟩,by repeat (first|exact Drawn0.refl _|apply Drawn0.step)⟩
       case round =>
        clear H'
        try clear p2
        try clear c5
        try clear c6
        try clear a5
        try clear a6
        try clear c7
        try clear a7
        try clear a8
        try clear c9
        try clear aN
        try clear aO
        try clear aD
        try clear ay
        try clear p2
        obtain ⟨ae,aa,rfl,rfl,HA,bo,⟨m2,rfl⟩⟩ := hrel
        cases gk with
       |zero => exact absurd HA.out (by simp [varint_Get.l0])
       |succ k2 =>
         have H := HA.out
         clear HA
         simp only [varint_Get.l0] at H
         by_cases aJ : aa < ab
         ·rw [if_pos aJ] at H
          have aV := decide_eq_true aJ
          clear aJ
          obtain ⟨ac,aq⟩ : ∃ j_ : Int,(wrap64 (a1 + aa)) = j_ := ⟨_,rfl⟩
          replace H : (if 0 ≤ (ac) then (if (ac) < (l0.length : Int) then (if 0 ≤ (wrap64 (7 * aa)) then (varint_Get.l0 k2 l0 a1 ab (Go.bits .or .u64 ae (shl .u64 (IntKind.u64.wrap (Go.bits .and .u8 (rd l0 (ac)) 127)) (wrap64 (7 * aa)))) ab (wrap64 (aa + 1))) else (none)) else (none)) else (none)) = some (r1,r2,r3) := by first|(rw [aq] at H;exact H)|(simp only [aq] at H ⊢;exact H)
          have bc : (IntKind.i64.wrap (a1 + aa)) = ac := (i64_w _).trans aq
          obtain ⟨bp,H⟩ := iS H
          have bq := decide_eq_true bp
          clear bp
          obtain ⟨br,H⟩ := iS H
          have bs := decide_eq_true br
          clear br
          obtain ⟨al,ar⟩ : ∃ j_ : Int,(wrap64 (7 * aa)) = j_ := ⟨_,rfl⟩
          replace H : (if 0 ≤ (al) then (varint_Get.l0 k2 l0 a1 ab (Go.bits .or .u64 ae (shl .u64 (IntKind.u64.wrap (Go.bits .and .u8 (rd l0 (ac)) 127)) (al))) ab (wrap64 (aa + 1))) else (none)) = some (r1,r2,r3) := by first|(rw [ar] at H;exact H)|(simp only [ar] at H ⊢;exact H)
          have bd : (IntKind.i64.wrap (7 * aa)) = al := (i64_w _).trans ar
          obtain ⟨be,H⟩ := iS H
          have bu := eq_true be
          have bv := decide_eq_true be
          clear be
          obtain ⟨au,aj⟩ : ∃ j_ : Int,(shl .u64 (IntKind.u64.wrap (Go.bits .and .u8 (rd l0 (ac)) 127)) (al)) = j_ := ⟨_,rfl⟩
          replace H : (varint_Get.l0 k2 l0 a1 ab (Go.bits .or .u64 ae (au)) ab (wrap64 (aa + 1))) = some (r1,r2,r3) := by first|(rw [aj] at H;exact H)|(simp only [aj] at H ⊢;exact H)
          have bf : (IntKind.u64.wrap ((IntKind.u64.wrap (Go.bits .and .u8 (rd l0 (ac)) 127)) * 2 ^ min (al).toNat 64)) = au := aj
          have bg : (al) ≤ 64 → (IntKind.u64.wrap ((IntKind.u64.wrap (Go.bits .and .u8 (rd l0 (ac)) 127)) * 2 ^ (al).toNat)) = au := shl_small aj
          have H' := aK H
          clear H
          have aE : 0 ≤ ((ac) : Int) := dA
          have aF : (ac) < (l0.length : Int) := dA
          obtain ⟨bx,bh,a2⟩ := Kd.at_int aI.out (ac) aE aF
          cases bh
          replace aE := eq_true aE
          replace aF := eq_true aF
          go_wp2
          go_roundg k2
          case measure => have := bm.out;have := bo.out;omega
          case rel => exact ⟨(Go.bits .or .u64 ae (au)),(wrap64 (aa + 1)),(by first|rfl|(simp;done)|(rw [Int.tdiv_eq_ediv_of_nonneg (by assumption)];done)|(rw [Int.tmod_eq_emod_of_nonneg (by assumption)];done)|(simp only [← aj] <;> (first|rfl|simp))|(simp [*];done)),(by first|rfl|(simp;done)|(simp [*];done)),H',⟨by have := bm.out;have := bo.out;omega⟩,by repeat (first|exact Drawn0.refl _|apply Drawn0.step)⟩
         ·rw [if_neg aJ] at H
          have aV := decide_eq_false aJ
          clear aJ
          by_cases aL : ae > 4611686018427387904
          ·rw [if_pos aL] at H
           have aW := decide_eq_true aL
           clear aL
           simp only [Option.some.injEq,Prod.mk.injEq] at H
           obtain ⟨rfl,rfl,rfl⟩ := H
           go_wp2
           go_ret3
           exact ⟨by first|rfl|(simp;done)|(simp [*];done),by repeat (first|exact Drawn0.refl _|apply Drawn0.step)⟩
          ·rw [if_neg aL] at H
           have aW := decide_eq_false aL
           clear aL
           by_cases aM : ab > 1
           ·rw [if_pos aM] at H
            have aX := decide_eq_true aM
            clear aM
            obtain ⟨ad,ak⟩ : ∃ j_ : Int,(wrap64 ((wrap64 (a1 + ab)) - 1)) = j_ := ⟨_,rfl⟩
            replace H : (if 0 ≤ (ad) then (if (ad) < (l0.length : Int) then (if (rd l0 (ad)) = 0 then (some (0,0,3)) else (some (wrap64 (ae),wrap64 (a1 + ab),0))) else (none)) else (none)) = some (r1,r2,r3) := by first|(rw [ak] at H;exact H)|(simp only [ak] at H ⊢;exact H)
            have bi : (IntKind.i64.wrap ((wrap64 (a1 + ab)) - 1)) = ad := (i64_w _).trans ak
            obtain ⟨bz,H⟩ := iS H
            have bB := decide_eq_true bz
            clear bz
            obtain ⟨bC,H⟩ := iS H
            have bD := decide_eq_true bC
            clear bC
            by_cases aG : (rd l0 (ad)) = 0
            ·rw [if_pos aG] at H
             have aY := beq_iff_eq.mpr aG
             have aZ := bne_eq_false_iff_eq.mpr aG
             clear aG
             simp only [Option.some.injEq,Prod.mk.injEq] at H
             obtain ⟨rfl,rfl,rfl⟩ := H
             have am : 0 ≤ ((ad) : Int) := dA
             have an : (ad) < (l0.length : Int) := dA
             obtain ⟨a0,aH,av⟩ := Kd.at_int aI.out (ad) am an
             cases aH
             replace am := eq_true am
             replace an := eq_true an
             go_wp2
             go_ret3
             exact ⟨by first|rfl|(simp;done)|(rw [Int.tdiv_eq_ediv_of_nonneg (by assumption)];done)|(rw [Int.tmod_eq_emod_of_nonneg (by assumption)];done)|(simp only [← ak] <;> (first|rfl|simp))|(simp [*];done),by repeat (first|exact Drawn0.refl _|apply Drawn0.step)⟩
            ·rw [if_neg aG] at H
             have aY := beq_eq_false_iff_ne.mpr aG
             have aZ := bne_iff_ne.mpr aG
             simp only [Option.some.injEq,Prod.mk.injEq] at H
             obtain ⟨rfl,rfl,rfl⟩ := H
             have am : 0 ≤ ((ad) : Int) := dA
             have an : (ad) < (l0.length : Int) := dA
             obtain ⟨a0,aH,av⟩ := Kd.at_int aI.out (ad) am an
             cases aH
             replace am := eq_true am
             replace an := eq_true an
             go_wp2
             go_ret3
             exact ⟨by first|rfl|(simp;done)|(rw [Int.tdiv_eq_ediv_of_nonneg (by assumption)];done)|(rw [Int.tmod_eq_emod_of_nonneg (by assumption)];done)|(simp only [← ak] <;> (first|rfl|simp))|(simp [*];done),by repeat (first|exact Drawn0.refl _|apply Drawn0.step)⟩
           ·rw [if_neg aM] at H
            have aX := decide_eq_false aM
            clear aM
            simp only [Option.some.injEq,Prod.mk.injEq] at H
            obtain ⟨rfl,rfl,rfl⟩ := H
            go_wp2
            go_ret3
            exact ⟨by first|rfl|(simp;done)|(simp [*];done),by repeat (first|exact Drawn0.refl _|apply Drawn0.step)⟩
    ·rw [if_neg c6] at H
     exact absurd H (by simp)
end Go.Proofs.YtmgliocboeifdaaGreatDoor.F
