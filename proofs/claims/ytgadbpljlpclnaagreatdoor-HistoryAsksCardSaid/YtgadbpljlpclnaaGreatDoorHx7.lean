import Derived.Test.YtgadbpljlpclnaaGreatDoorHx0
import Derived.Test.YtgadbpljlpclnaaGreatDoorHx6
namespace Go.Proofs.YtgadbpljlpclnaaGreatDoor.H
open Go.RowKit Go.Proofs.YtgadbpljlpclnaaGreatDoorW.PrintWords Go.Proofs.YtgadbpljlpclnaaGreatDoorW.PrintLast Go.Proofs.YtgadbpljlpclnaaGreatDoorW.PrintMore
set_option maxHeartbeats 4000000
set_option maxRecDepth 100000
attribute [local go_sem] max2_int min2_int max_two min_two max_three min_three max_four min_four
set_option linter.unusedVariables false
set_option linter.unusedSimpArgs false

/-! ### history_ancestors: function 40 (by hand) -/
open Go.Maps Go.Proofs.YtgadbpljlpclnaaGreatDoor.Q
/-- The first commit of an ID. -/
def getH (l : List S28) (x : Int) : Option S28 := l.find? fun c => decide (c.f0 = x)
def getR (l : List S28) (x : Int) : Int × List Int × List S53 × Int × Int × Bool := match getH l x with | some c => (c.f0, c.f1, c.f2, c.f3, c.f4, true) | none => (0, [], [], 0, 0, false)
theorem getH_id {l : List S28} {x : Int} {c : S28} (h : getH l x = some c) : c.f0 = x := by
  have := List.find?_some h
  simpa using this
theorem getH_mem {l : List S28} {x : Int} {c : S28} (h : getH l x = some c) : c ∈ l := List.mem_of_find?_eq_some h
theorem rdC_nat (l : List S28) (i : Nat) (h : i < l.length) : rd_T28 l (i : Int) = l[i] := by
  simp [rd_T28, List.getD_eq_getElem?_getD, List.getElem?_eq_getElem h]
theorem get_l0 (l : List S28) (x : Int) (hl : l.length ≤ 1000000) : ∀ (d i k : Nat), i + d = l.length → d < k → history_Get.l0 k x l (l.length : Int) (i : Int) = some (getR (l.drop i) x) := by
  intro d
  induction d with
  | zero =>
    intro i k hi hk
    obtain ⟨k, rfl⟩ : ∃ m, k = m + 1 := ⟨k - 1, by omega⟩
    rw [history_Get.l0, if_neg (by omega), List.drop_of_length_le (by omega)]
    rfl
  | succ d ih =>
    intro i k hi hk
    obtain ⟨k, rfl⟩ : ∃ m, k = m + 1 := ⟨k - 1, by omega⟩
    have hlt : i < l.length := by omega
    rw [history_Get.l0, if_pos (by omega), if_pos (by omega), if_pos (by omega), rdC_nat l i hlt, w_incV_ i (by omega), List.drop_eq_getElem_cons hlt, getR, getH, List.find?_cons]
    by_cases h : l[i].f0 = x
    · rw [if_pos h]
      simp [h]
    · rw [if_neg h, ih (i + 1) k (by omega) (by omega)]
      simp [h, getR, getH]
theorem get_is (l : List S28) (x : Int) (hl : l.length ≤ 1000000) : history_Get.f (l.length + 1) l x = some (getR l x) := by
  have := get_l0 l x hl l.length 0 (l.length + 1) (by omega) (by omega)
  rwa [List.drop_zero] at this
/-- The numbers that are found from those that are still to be looked at. -/
def ancL (l : List S28) : Nat → List Int → List Int → Option (List Int)
  | 0, _, _ => none
  | _ + 1, [], m => some m
  | k + 1, x :: td, m => match getH l x with
    | none => ancL l k td m
    | some c => if x ∈ m then ancL l k td m else if td.length + c.f1.length ≤ 1000000 then ancL l k (td ++ c.f1) (x :: m) else none
def okHs (l : List S28) : Bool := l.all fun c => okV c.f0
theorem okHs_id {l : List S28} (h : okHs l = true) {x : Int} {c : S28} (hc : getH l x = some c) : okV x = true := by
  have := List.all_eq_true.1 h c (getH_mem hc)
  rwa [getH_id hc] at this
theorem ancL_len {l : List S28} : ∀ (k : Nat) (td m r : List Int), ancL l k td m = some r → m.length ≤ r.length
  | 0, _, _, _, h => by cases h
  | k + 1, [], m, r, h => by obtain rfl := Option.some.inj h; exact Nat.le_refl _
  | k + 1, x :: td, m, r, h => by
    rw [ancL] at h
    split at h
    · exact ancL_len k _ _ _ h
    · split at h
      · exact ancL_len k _ _ _ h
      · split at h
        · have := ancL_len k _ _ _ h
          rw [List.length_cons] at this
          omega
        · cases h
theorem ancL_mono {l : List S28} : ∀ (k : Nat) (td m r : List Int), ancL l k td m = some r → ancL l (k + 1) td m = some r
  | 0, _, _, _, h => by cases h
  | k + 1, [], m, r, h => h
  | k + 1, x :: td, m, r, h => by
    rw [ancL] at h ⊢
    split at h <;> rename_i hg
    · exact ancL_mono k _ _ _ h
    · split at h
      · rename_i c; rw [if_pos c]; exact ancL_mono k _ _ _ h
      · rename_i c
        split at h
        · rename_i c2; rw [if_neg c, if_pos c2]; exact ancL_mono k _ _ _ h
        · cases h
def history_ancestors.f (k : Nat) (l0 : List S28) (a1 : Int) : Option (List Int) := if l0.length ≤ 1000000 ∧ okHs l0 = true then (ancL l0 k [a1] []).bind fun m => if m.length ≤ 1000000 then some m else none else none
theorem history_ancestors.mono : ∀ a0 a1 k, LeO (history_ancestors.f k a0 a1) (history_ancestors.f (k + 1) a0 a1) := by
  intro a0 a1 k
  unfold history_ancestors.f
  refine LeO.ite ?_ (LeO.refl _)
  exact LeO.bind (fun r h => ancL_mono k _ _ r h) (fun _ => LeO.refl _)
theorem newCells_of {w : World} {A : Option Addr} {c : Nat} {l : List Int} (h : (Kd.int .i64).C w A l.length l) : newCells w (.slice A l.length c) (l.map (Value.int .i64)) := by
  cases A with
  | none =>
    by_cases hl : l.length = 0
    · rw [hl, List.eq_nil_of_length_eq_zero hl]
      exact .inl ⟨c, rfl, rfl⟩
    · obtain ⟨ad, he, _⟩ := Kd.at_int h 0 (by omega) (by omega)
      cases he
  | some ad =>
    refine .inr ⟨ad, c, by rw [List.length_map], fun j u hj => ?_⟩
    have hlt : j < l.length := by
      have := (List.getElem?_eq_some_iff.1 hj).1
      rwa [List.length_map] at this
    obtain ⟨ad', he, hc⟩ := Kd.at_int h (j : Int) (by omega) (by omega)
    obtain rfl := Option.some.inj he
    rw [Int.toNat_natCast] at hc
    rw [hc, ← hj, List.getElem?_map, List.getElem?_eq_getElem hlt]
    simp [rd, List.getD_eq_getElem?_getD, List.getElem?_eq_getElem hlt]
theorem getR_some {l : List S28} {x : Int} {c : S28} (h : getH l x = some c) : getR l x = (c.f0, c.f1, c.f2, c.f3, c.f4, true) := by
  unfold getR; rw [h]
theorem getR_none {l : List S28} {x : Int} (h : getH l x = none) : getR l x = (0, [], [], 0, 0, false) := by
  unfold getR; rw [h]
theorem history_ancestors.calls_ (k : Nat) (P0_ : Nat → Prop) (A0 : Option Addr) (c0 : Nat) (l0 : List S28) (a1 : Int) (m : List Int) (w : World) (hs0 : Kd.V k28 28 w w.heap.size (fun k_ => P0_ k_) (.slice A0 l0.length c0) l0) (h : history_ancestors.f k l0 a1 = some m) :
    Calls Tryz.prog 40 #[.slice A0 l0.length c0, .int .i64 a1] w fun e w' => ∃ b, e = .returned (.map (some b)) ∧ w.heap.size ≤ b ∧ ST Tryz.prog 3 4 w' b m.length m ∧ Below w.heap.size w w' := by
  unfold history_ancestors.f at h
  split at h
  case isFalse => cases h
  rename_i hh
  obtain ⟨m1, h1, h2⟩ := Option.bind_eq_some_iff.1 h
  split at h2
  case isFalse => cases h2
  rename_i hlen
  obtain rfl := Option.some.inj h2
  have HH := aK (And.intro hh (And.intro h1 hlen))
  have HV := aK (Kd.V_bound hs0)
  clear h h1 h2 hh hlen hs0
  have info3 : (Tryz.prog.info? 3).map (fun i => (i.zero, i.size, i.bytes)) = some (some (.int .i64 0), 1, 8) := by kernel_rfl
  obtain ⟨ii, hii, hie⟩ := Option.map_eq_some_iff.1 info3
  obtain ⟨hz0, hie2⟩ := Prod.mk.inj (show (ii.zero, ii.size, ii.bytes) = (some (Value.int .i64 0), 1, 8) from hie)
  obtain ⟨hz1, hz2⟩ := Prod.mk.inj hie2
  have HI := aK (And.intro hii (And.intro hz0 (And.intro hz1 hz2)))
  clear info3 hii hie hie2 hz0 hz1 hz2
  have hmm := @run_makeMap Tryz.prog
  go_enter Tryz.func40, Tryz.ntmps40
  go_wp2_with fail
  go_loopg [6] k (fun kq v6 w' => ∃ (td fm : List Int), Aside0 (ancL l0 kq td fm = some m1) ∧ Aside0 (ownTail w' (w.heap.size + 1) 3 v6 (td.map (Value.int .i64))) ∧ Aside0 (ST Tryz.prog 3 4 w' w.heap.size fm.length fm) ∧ Aside0 (Below w.heap.size w w'))
  case atStart =>
    refine ⟨[a1], [], ⟨HH.out.2.1⟩, ⟨⟨w.heap.size + 1, 0, 1, #[.int .i64 a1], rfl, Nat.le_refl _, ?_, by simp, by decide, by simp, by simp⟩⟩, ⟨(ST.made w).below (below_alloc (Below.refl _ _) _)⟩, ⟨below_alloc (below_alloc (Below.refl _ _) _) _⟩⟩
    have := heap_alloc_new (w.alloc (Obj.map #[] 0)) (Obj.cells #[.int .i64 a1] 3)
    simpa using this
  case round =>
    obtain ⟨td, fm, HA, HT, HS, HB⟩ := hrel
    cases gk with
    | zero => exfalso; have hA := HA.out; cases hA
    | succ k1 =>
      cases td with
      | nil =>
        have hA := HA.out
        obtain rfl := Option.some.inj hA
        obtain ⟨g, off, cap, cur, rfl, _⟩ := HT.out
        simp only [List.map_nil, List.length_nil]
        have c1 : decide ((0 : Int) < ((0 : Nat) : Int)) = false := by decide
        go_wp2
        go_ret
        exact ⟨_, rfl, Nat.le_refl _, HS.out, HB.out⟩
      | cons x td =>
        obtain ⟨g, off, cap, cur, hv, _⟩ := id HT.out
        rw [List.map_cons, List.length_cons, List.length_map] at hv
        subst hv
        have hx := HT.out.cell rfl 0 (.int .i64 x) rfl
        rw [Nat.add_zero] at hx
        have c1 : decide ((0 : Int) < ((td.length + 1 : Nat) : Int)) = true := decide_eq_true (by omega)
        have p : (0 : Int) < ((td.length + 1 : Nat) : Int) := by omega
        cases hg : getH l0 x with
        | none =>
          have hA := HA.out
          rw [ancL] at hA
          simp only [hg] at hA
          have HN := aK hA
          clear hA HA
          have hcl := aK (history_Get.calls (l0.length + 1) (fun k => P0_ k ∧ k < w.heap.size) A0 c0 l0 x 0 [] [] 0 0 false wr (Kd.V_below HV.out HB.out) (by rw [get_is l0 x HH.out.1.1, getR_none hg]))
          go_wp2_with (first
            | (go_at_call 12
               refine hcl.out.mono ?_
               rintro e w3 ⟨v1, v2, rfl, hV1, hV2, hb3⟩
               obtain ⟨A1, c1_, rfl⟩ := Kd.V_slice hV1
               obtain ⟨A2, c2_, rfl⟩ := Kd.V_slice hV2
               have n0_ := aK (HT.out.below hb3); have n1_ := aK (HS.out.below hb3); have n2_ := aK (below_then HB.out HB.out.size hb3)
               clear hcl hx HT HS HB hV1 hV2 hb3
               have HT := n0_; have HS := n1_; have HB := n2_; clear n0_ n1_ n2_)
            | ((with_reducible refine gate_dst (N := 16) rfl ?_)
               refine wpList_tail _ rfl _ _ rfl (w.heap.size + 1) 3 ii Tryz.underlying25 HI.out.1 HI.out.2.2.1 _ (.int .i64 x) (td.map (Value.int .i64)) rfl (HT.out.below (below_alloc (Below.refl _ _) _)) ?_
               intro v16 hT6 hv6
               have n0_ := aK hT6
               clear HT hT6 hv6
               have HT := n0_; clear n0_))
          go_roundg k1
          case measure => omega
          case rel => exact ⟨td, fm, HN, HT, ⟨HS.out.below (below_alloc (Below.refl _ _) _)⟩, ⟨HB.out.alloc HB.out.size _⟩⟩
        | some c =>
          obtain rfl : x = c.f0 := (getH_id hg).symm
          have HK := aK (keyI_ok (okHs_id HH.out.1.2 hg))
          have hlr : w.heap.size < wr.heap.size := HS.out.lt
          have HLR := aK hlr
          have hA := HA.out
          rw [ancL] at hA
          simp only [hg] at hA
          have hcl := aK (history_Get.calls (l0.length + 1) (fun k => P0_ k ∧ k < w.heap.size) A0 c0 l0 c.f0 c.f0 c.f1 c.f2 c.f3 c.f4 true wr (Kd.V_below HV.out HB.out) (by rw [get_is l0 c.f0 HH.out.1.1, getR_some hg]))
          clear hg hlr
          by_cases hm : c.f0 ∈ fm
          · rw [if_pos hm] at hA
            have HN := aK hA
            clear hA HA
            go_wp2_with (first
              | (go_at_call 12
                 refine hcl.out.mono ?_
                 rintro e w3 ⟨v1, v2, rfl, hV1, hV2, hb3⟩
                 obtain ⟨A1, c1_, rfl⟩ := Kd.V_slice hV1
                 obtain ⟨A2, c2_, rfl⟩ := Kd.V_slice hV2
                 have n0_ := aK (HT.out.below hb3); have n1_ := aK (HS.out.below hb3); have n2_ := aK (below_then HB.out HB.out.size hb3)
                 clear hcl hx HT HS HB hV1 hV2 hb3
                 have HT := n0_; have HS := n1_; have HB := n2_; clear n0_ n1_ n2_)
              | ((with_reducible refine gate_dst (N := 31) rfl ?_); (try (refine gate_guard (by rfl) ?_; dsimp only))
                 refine wpList_lookup_setI _ rfl _ _ 62 rfl 3 4 lawI Tryz.underlying62 Tryz.underlying4 (zeroB _) w.heap.size fm.length fm rfl (HS.out.below (below_alloc (Below.refl _ _) _)) c.f0 rfl HK.out ?_
                 rw [decide_eq_true hm])
              | ((with_reducible refine gate_dst (N := 16) rfl ?_)
                 refine wpList_tail _ rfl _ _ rfl (w.heap.size + 1) 3 ii Tryz.underlying25 HI.out.1 HI.out.2.2.1 _ (.int .i64 c.f0) (td.map (Value.int .i64)) rfl (HT.out.below (below_alloc (Below.refl _ _) _)) ?_
                 intro v16 hT6 hv6
                 have n0_ := aK hT6
                 clear HT hT6 hv6
                 have HT := n0_; clear n0_))
            go_roundg k1
            case measure => omega
            case rel => exact ⟨td, fm, HN, HT, ⟨HS.out.below (below_alloc (Below.refl _ _) _)⟩, ⟨HB.out.alloc HB.out.size _⟩⟩
          · rw [if_neg hm] at hA
            split at hA
            case isFalse => cases hA
            rename_i hln
            have HN := aK hA
            have HLN := aK hln
            have hfl : fm.length < 1000000 := by
              have := ancL_len _ _ _ _ hA
              have := HH.out.2.2
              rw [List.length_cons] at *
              omega
            have HFL := aK hfl
            clear hA HA hln hfl
            go_wp2_with (first
              | (go_at_call 12
                 refine hcl.out.mono ?_
                 rintro e w3 ⟨v1, v2, rfl, hV1, hV2, hb3⟩
                 obtain ⟨A1, c1_, rfl⟩ := Kd.V_slice hV1
                 obtain ⟨A2, c2_, rfl⟩ := Kd.V_slice hV2
                 have n0_ := aK (HT.out.below hb3); have n1_ := aK (HS.out.below hb3); have n2_ := aK (below_then HB.out HB.out.size hb3)
                 have n3_ := aK (show Kd.V (Kd.int .i64) 3 w3 wr.heap.size (fun k => k ≠ w.heap.size) (.slice A1 c.f1.length c1_) c.f1 from Kd.V_mono hV1 (fun k hk => by rcases hk with hk | hk <;> (have := HLR.out; omega)))
                 clear hcl hx HT HS HB hV1 hV2
                 have HT := n0_; have HS := n1_; have HB := n2_; have HP := n3_; have HB3 := aK hb3.size; clear n0_ n1_ n2_ n3_ hb3)
              | ((with_reducible refine gate_dst (N := 31) rfl ?_); (try (refine gate_guard (by rfl) ?_; dsimp only))
                 refine wpList_lookup_setI _ rfl _ _ 62 rfl 3 4 lawI Tryz.underlying62 Tryz.underlying4 (zeroB _) w.heap.size fm.length fm rfl (HS.out.below (below_alloc (Below.refl _ _) _)) c.f0 rfl HK.out ?_
                 rw [decide_eq_false hm])
              | (at_mapUpdate
                 obtain ⟨D, hD, hRp⟩ := HS.out.below (below_alloc (Below.refl _ _) _)
                 refine wpList_mapUpdate_own _ rfl _ _ _ 62 rfl 3 4 lawI Tryz.underlying62 _ w.heap.size fm.length D rfl hD (by have := HFL.out; unfold maxLen; omega) _ _ _ rfl rfl HK.out _ [] (plainElem_bool Tryz.underlying4 true) ?_
                 intro w4 hown2 hgrow2
                 have n0_ := aK (show ST Tryz.prog 3 4 w4 w.heap.size (c.f0 :: fm).length (c.f0 :: fm) from ⟨_, hown2, hRp.put hD.isMap c.f0⟩)
                 have n1_ := aK ((HB.out.alloc HB.out.size _).grown hgrow2 (HB.out.alloc HB.out.size _).size (fun k hk => by injection hk with hk; omega))
                 have n2_ := aK (Kd.V_grown (Kd.V_below HP.out (below_alloc (Below.refl _ _) _)) hgrow2 (fun k hk e => hk (Option.some.inj e)))
                 have n3_ := aK ((HT.out.below (below_alloc (Below.refl _ _) _)).kept hgrow2 (fun e => by have h9 : g = w.heap.size := Option.some.inj e; omega))
                 have hcW : (w3.alloc (Obj.cells #[Value.int .i64 c.f0, .slice A1 c.f1.length c1_, .slice A2 c.f2.length c2_, .int .i64 c.f3, .int .i64 c.f4] 28)).cell? ⟨w3.heap.size, 1, none⟩ = some (.slice A1 c.f1.length c1_) := (cell_of_row _ _ 1 _ _ _ (heap_alloc_new w3 _)).trans rfl
                 have hcp := hgrow2.cell hcW (fun e => by have := HLR.out; have := HB3.out; injection e with e; simp only at e; omega)
                 clear HS HB HP HT hcW hD hRp hown2 hgrow2
                 have HS := n0_; have HB := n1_; have HP := n2_; have HT := n3_; clear n0_ n1_ n2_ n3_)
              | (at_builtin
                 refine wpList_append_tail _ rfl _ _ _ rfl (w.heap.size + 1) 3 ii (.int .i64 0) 8 Tryz.underlying25 HI.out.1 HI.out.2.1 HI.out.2.2.1 HI.out.2.2.2 rfl _ _ rfl HT.out _ _ rfl (newCells_of (Kd.V_reads' HP.out).2.2) (fun u hu => by obtain ⟨y, _, rfl⟩ := List.mem_map.1 hu; rfl) (by have := HLN.out; simp only [List.length_map, List.length_cons]; unfold maxLen; omega) (by have := HLN.out; simp only [List.length_map, List.length_cons]; omega) (by have := HB.out.size; have := HS.out.lt; omega) ?_
                 intro v39 w5 hT5 hg5
                 have n0_ := aK (show ownTail w5 (w.heap.size + 1) 3 v39 (Value.int .i64 c.f0 :: (td ++ c.f1).map (Value.int .i64)) by simpa using hT5)
                 have n1_ := aK (HS.out.grown hg5 (fun e => by have := HT.out.lt w.heap.size e.symm; omega))
                 have n2_ := aK (HB.out.grown hg5 HB.out.size (fun k hk => by have := HT.out.lt k hk; omega))
                 clear HT HS HB HP hT5 hg5 hcp
                 have HT := n0_; have HS := n1_; have HB := n2_; clear n0_ n1_ n2_)
              | ((with_reducible refine gate_dst (N := 16) rfl ?_)
                 refine wpList_tail _ rfl _ _ rfl (w.heap.size + 1) 3 ii Tryz.underlying25 HI.out.1 HI.out.2.2.1 _ (.int .i64 c.f0) ((td ++ c.f1).map (Value.int .i64)) rfl HT.out ?_
                 intro v16 hT6 hv6
                 have n0_ := aK hT6
                 clear HT hT6 hv6
                 have HT := n0_; clear n0_))
            go_roundg k1
            case measure => omega
            case rel => exact ⟨td ++ c.f1, c.f0 :: fm, HN, HT, HS, HB⟩

/-! ### slices_Sort_int_int: function 41 (by hand) -/
open Go.Sort
theorem below_sorted {B : Nat} {w0 w : World} {g n : Nat} {d : Array Int} {os : Array Obj} (h : Below B w0 w) (hg : B ≤ g) (hB : B ≤ w.heap.size) : Below B w0 (grow (putRow (Value.int .i64) (Sort.ahead w n) g 0 d) os) :=
  (Lib.below_putRow (enc := Value.int .i64) (q := n) (d := d) h hg).trans (Lib.below_grow B _ (by rw [size_putRow]; exact hB) 0 os)
/-- What a sort leaves of a row of the call's own. -/
theorem own_sorted {w : World} {base e g n cap q : Nat} {zs ys : List Int} {os : Array Obj} (h : w.ownsRow base e 1 (.slice (some ⟨g, 0, none⟩) n cap) n (zs.map (Value.int .i64))) (hy : ys.length = n) :
    (grow (putRow (Value.int .i64) (Sort.ahead w q) g 0 ys.toArray) os).ownsRow base e 1 (.slice (some ⟨g, 0, none⟩) n cap) n (ys.map (Value.int .i64)) := by
  have h1 := Lib.ownsRow_putRow (q := q) (k := n) h hy (Nat.le_refl _)
  rw [List.take_of_length_le (by omega)] at h1
  exact Lib.ownsRow_grow h1 0 os
def slices_Sort_int_int.f (l0 : List Int) : Option (List Int) := if l0.length < 4611686018427387904 then some (sortd l0) else none
/-- A row of the call's own, sorted in its place. -/
theorem slices_Sort_int_int.sorts {w W : World} {v : Value} {l r : List Int} (hR : Kd.R (Kd.int .i64) 3 W w.heap.size (fun _ => True) v l) (hB : Below w.heap.size w W) (hl : slices_Sort_int_int.f l = some r) :
    Calls Tryz.prog 41 #[v] W fun e w' => e = .returned (.tuple #[]) ∧ Kd.R (Kd.int .i64) 3 w' w.heap.size (fun _ => True) v r ∧ Below w.heap.size w w' := by
  unfold slices_Sort_int_int.f at hl
  split at hl
  case isFalse => cases hl
  rename_i hl0
  obtain rfl := Option.some.inj hl
  have ho := Kd.own_of_R hR
  by_cases hv : v = .slice none 0 0
  · subst hv
    obtain rfl : l = [] := by
      rcases ho.2 with ⟨_, h0⟩ | ⟨g, cap, cur, h1, _⟩
      · exact List.eq_nil_of_length_eq_zero h0
      · cases h1
    refine (Tryz.slices_Sort_int_none none 0 W).mono ?_
    rintro e w2 ⟨rfl, rfl⟩
    have e1 : sortd ([] : List Int) = [] := List.eq_nil_of_length_eq_zero (by have := sortd_len []; simpa using this)
    rw [e1]
    exact ⟨rfl, hR, hB⟩
  · obtain ⟨g, cap, rfl, hg, hlt, hn, hm, hll, hH⟩ := Lib.holds_of_ownsRow ho hv
    refine (Tryz.slices_Sort_int g 0 cap l W hH hlt hl0).mono ?_
    rintro e w2 ⟨rfl, n, os, rfl⟩
    have ho2 := own_sorted (q := n) (os := os) ho (sortd_len l)
    have hB2 := below_sorted (n := n) (d := (sortd l).toArray) (os := os) hB hg (by omega)
    refine ⟨rfl, Kd.R_of_own ?_ (fun _ _ => trivial), hB2⟩
    rw [sortd_len]
    exact ho2

/-! ### history_Ancestors: function 22 (by hand) -/
open Go.Maps Go.Proofs.YtgadbpljlpclnaaGreatDoor.Q
theorem keyOf_int_ {x : Int} {kl : Lit} (h : keyOf Tryz.prog 3 (.int .i64 x) = some kl) : kl = kI x := by
  obtain ⟨y, hy, h2, _⟩ := Maps.keyOf_int_inv Tryz.underlying3 h
  injection hy with _ hy
  rw [h2, ← hy]
  rfl
theorem sameKey_int_ (s t : Int) : (kI s).sameKey (kI t) = decide (s = t) := by
  by_cases h : s = t
  · subst h; simp [kI, Lit.sameKey]
  · rw [decide_eq_false h]
    exact sameKey_ne (fun e => h (kI_inj e))
structure BI1 where
  v : Bool
def mkBI (c : BI1) : Value := .bool c.v
theorem sortd_nodup {l m : List Int} (hn : l.Nodup) (h : ∀ x, x ∈ l ↔ x ∈ m) : sortd l = uniq m := by
  refine srt_ext ?_ (uniq_srt m) (fun x => by rw [sortd_mem, mem_uniq, h x])
  have h1 := sortd_le l
  have h2 : (sortd l).Nodup := (List.mergeSort_perm l _).nodup_iff.2 hn
  exact (List.Pairwise.and h1 h2).imp (fun h => by obtain ⟨a, b⟩ := h; omega)
def history_Ancestors.f (k : Nat) (l0 : List S28) (a1 : Int) : Option (List Int) := (history_ancestors.f k l0 a1).map uniq
theorem history_Ancestors.mono : ∀ a0 a1 k, LeO (history_Ancestors.f k a0 a1) (history_Ancestors.f (k + 1) a0 a1) := by
  intro a0 a1 k r h
  unfold history_Ancestors.f at h ⊢
  obtain ⟨m, h1, rfl⟩ := Option.map_eq_some_iff.1 h
  rw [history_ancestors.mono _ _ _ _ h1]
  rfl
theorem history_Ancestors.callz (k : Nat) (P0_ : Nat → Prop) (A0 : Option Addr) (c0 : Nat) (l0 : List S28) (a1 : Int) (r : List Int) (w : World) (hs0 : Kd.V k28 28 w w.heap.size (fun k_ => P0_ k_) (.slice A0 l0.length c0) l0) (h : history_Ancestors.f k l0 a1 = some r) :
    Calls Tryz.prog 22 #[.slice A0 l0.length c0, .int .i64 a1] w fun e w' => ∃ v, e = .returned v ∧ Kd.R (Kd.int .i64) 3 w' w.heap.size (fun _ => True) v r ∧ Below w.heap.size w w' := by
  unfold history_Ancestors.f at h
  obtain ⟨m, h1, rfl⟩ := Option.map_eq_some_iff.1 h
  have hm6 : m.length ≤ 1000000 := by
    unfold history_ancestors.f at h1
    split at h1
    case isFalse => cases h1
    obtain ⟨m1, _, h3⟩ := Option.bind_eq_some_iff.1 h1
    split at h3
    case isFalse => cases h3
    rename_i hl
    obtain rfl := Option.some.inj h3
    exact hl
  have HM6 := aK hm6
  have info3 : (Tryz.prog.info? 3).map (fun i => (i.zero, i.size, i.bytes)) = some (some (.int .i64 0), 1, 8) := by kernel_rfl
  have HI := aK info3
  have hcl := aK (history_ancestors.calls_ k P0_ A0 c0 l0 a1 m w hs0 h1)
  clear h h1 hs0 info3 hm6
  go_enter Tryz.func22, Tryz.ntmps22
  go_wp2_with (first
    | (go_at_call 40
       refine hcl.out.mono ?_
       rintro e w4 ⟨b, rfl, hb4, hM4, hB4⟩
       have HB := aK hB4
       have HM := aK hM4
       have HBB := aK hb4
       clear hcl hb4 hM4 hB4)
    | (at_range
       obtain ⟨D, hD, hRp⟩ := HM.out
       refine wpList_range_own _ rfl _ 62 rfl 3 4 lawI Tryz.underlying62 _ b m.length D rfl hD ?_
       intro w0 hrg0 hg0 hs0))
  have HRG := aK hrg0
  have HSZ := aK (And.intro hs0 (And.intro hD.lt hD.size_le))
  have HR := aK hRp
  have n1_ := aK (HB.out.grown hg0 HB.out.size (fun k hk => by cases hk))
  have HRL := aK (show w.heap.size ≤ w4.heap.size from HB.out.size)
  clear HB hrg0 hg0 hs0 hD hRp HM
  have HB := n1_; clear n1_
  generalize hr0 : w4.heap.size = rr at HRG HSZ HRL ⊢
  clear hr0
  go_frame
  go_loopw [5] (fun v5 w2 => ∃ (left : Lit → Bool) (cnt : Nat) (out2 : List Int), Aside0 (w2.ranges Tryz.prog 3 (plainElem Tryz.prog 4) b rr m.length D left cnt) ∧ Aside0 (∀ x, x ∈ out2 ↔ x ∈ m ∧ left (kI x) = false) ∧ Aside0 (out2.Nodup ∧ out2.length + cnt ≤ m.length) ∧ Aside0 (Kd.R (Kd.int .i64) 3 w2 w.heap.size (fun k => k ≠ rr) v5 out2) ∧ Aside0 (∀ k, v5.ownBlock = some k → k ≠ b) ∧ Aside0 (Below w.heap.size w w2))
    (fun _ w2 => w2.rangeLeft b rr)
  case atStart =>
    refine ⟨_, _, [], HRG, ⟨fun x => ?_⟩, ⟨List.nodup_nil, by have := HSZ.out.2.2; simp; omega⟩, ⟨Kd.R_nil _ _ _ _ _⟩, ⟨fun k hk => by cases hk⟩, HB⟩
    constructor
    · intro h; cases h
    · rintro ⟨h1, h2⟩
      rw [(HR.out x).1, decide_eq_true h1] at h2; cases h2
  case round =>
    obtain ⟨left, cnt, out2, hrg, HM2, HL2, HO2, HN2, HB2⟩ := hrel
    go_wp2_with (first
      | (at_next; refine wpList_next_ranges _ rfl _ rfl 3 lawI (plainElem Tryz.prog 4) (Value.int .i64) mkBI (fun key kl h => by obtain ⟨x, rfl, _⟩ := Maps.keyOf_int_inv Tryz.underlying3 h; exact ⟨x, rfl⟩) (fun v y h => by obtain ⟨c, rfl, _⟩ := plainElem_bool_invI Tryz.underlying4 h; exact ⟨⟨c⟩, rfl⟩) b rr m.length D left cnt rfl hrg.out ?_ ?_))
    · intro hc0 hl0
      have HE0 := aK (And.intro hc0 hl0)
      clear hc0 hl0
      have hu : sortd out2 = uniq m := sortd_nodup HL2.out.1 (fun x => by rw [HM2.out x]; exact ⟨fun h => h.1, fun h => ⟨h, HE0.out.2 _⟩⟩)
      have hs := aK (slices_Sort_int_int.sorts (Kd.R_mono HO2.out (fun _ _ => trivial)) HB2.out (r := sortd out2) (by rw [slices_Sort_int_int.f, if_pos (by have := HL2.out.2; have := HM6.out; omega)]))
      rw [hu] at hs
      clear HM2 HL2 HO2 HN2 HB2 hrg hu
      go_wp2_with fail
      go_at_call 41
      refine hs.out.mono ?_
      rintro e w3 ⟨rfl, hR3, hB3⟩
      have HO := aK hR3
      have HB := aK hB3
      clear hs hR3 hB3
      go_wp2
      go_ret
      exact ⟨_, rfl, HO.out, HB.out⟩
    · skip
      intro x c kl y1 y2 w3 cnt3 hkey hlk hy hat hrg3 hlt3 hg3 hs3 hen
      obtain rfl := keyOf_int_ hkey
      have hhas : Maps.has D (kI x) = true := has_true_of_atKey hat
      rw [(HR.out x).1] at hhas
      have HX := aK (And.intro (of_decide_eq_true hhas) (And.intro hlk hlt3))
      have HRG3 := aK hrg3
      have HO3 := aK (Kd.R_grown HO2.out hg3 (fun k hk => by simpa using hk))
      have HB3 := aK (HB2.out.grown hg3 HB2.out.size (fun k hk => by cases hk; exact HRL.out))
      have HEQ := aK (hrg.out.left_eq)
      clear hkey hhas hlk hlt3 hat hy hrg3 hg3 hs3
      go_wp2_with (first
        | ((with_reducible refine gate_builtin (b := .append) (xs := #[.tmp 15, .tmp 17]) rfl ?_); at_builtin; refine Kd.R_append (Kd.int .i64) (w0 := w) w.heap.size rfl (.tmp 15) (.tmp 17) 25 3 (.int .i64 0) 8 rfl Tryz.underlying25 HI.out rfl (by decide) (by omega) _ out2 x [.int .i64 x] (fun k => k ≠ rr) (fun _ => False) rfl rfl rfl (fun _ hk => hk.elim) (fun k hk => ?fr) HO3.out HB3.out HB3.out.size ?len ?_;
           (case fr => have := HRG3.out.lt; omega);
           (case len => have := HL2.out.2; have := HM6.out; omega);
           intro v4 w4 ho4 hb4 hg4 hat4
           have n0_ := aK ho4; have n1_ := aK hb4
           have n2_ := aK (HRG3.out.kept hg4 (fun e => HN2.out b e.symm rfl) (fun e => HO3.out.1 rr e.symm rfl))
           have n3_ := aK (show ∀ k, v4.ownBlock = some k → k ≠ b from fun k hk => by
             rcases hat4 with h | ⟨b', h, h2⟩
             · exact HN2.out k (h.symm.trans hk)
             · obtain rfl : b' = k := Option.some.inj (h.symm.trans hk)
               have := HRG3.out.owns.lt; omega)
           clear ho4 hb4 hg4 hat4 HO3 HB3 HRG3
           have HO3 := n0_; have HB3 := n1_; have HRG3 := n2_; have HN4 := n3_; clear n0_ n1_ n2_ n3_; go_frame))
      have hxn : x ∉ out2 := fun h => by
        have h2 := ((HM2.out x).1 h).2
        rw [HX.out.2.1] at h2; cases h2
      refine ⟨⟨_, cnt3, out2 ++ [x], HRG3, ⟨fun s => ?_⟩, ⟨?_, by have := HL2.out.2; have := HX.out.2.2; rw [List.length_append, List.length_singleton]; omega⟩, HO3, HN4, HB3⟩, ?_⟩
      · rw [List.mem_append, List.mem_singleton, HM2.out s, sameKey_int_]
        constructor
        · rintro (⟨h1, h2⟩ | rfl)
          · exact ⟨h1, by rw [h2]; rfl⟩
          · exact ⟨HX.out.1, by simp⟩
        · rintro ⟨h1, h2⟩
          rw [Bool.and_eq_false_iff] at h2
          rcases h2 with h2 | h2
          · exact .inl ⟨h1, h2⟩
          · exact .inr (by simpa using h2)
      · rw [List.nodup_append]
        refine ⟨HL2.out.1, by simp, fun y hy z hz e => ?_⟩
        rw [List.mem_singleton] at hz
        subst hz; subst e
        exact hxn hy
      · rw [HRG3.out.left_eq, HEQ.out]
        exact HX.out.2.2
theorem history_Ancestors.calls (k : Nat) (A0 : Option Addr) (c0 : Nat) (l0 : List (S28)) (a1 : Int) (r : List Int) (w : World) (ab : Kd.C k28 w A0 l0.length l0) (ac : l0.length ≤ c0) (h : history_Ancestors.f k l0 a1 = some r) :
    Calls Tryz.prog 22 #[.slice A0 l0.length c0, .int .i64 a1] w fun e w' => ∃ aa : Value, e = .returned (aa) ∧ Kd.R (Kd.int .i64) 3 w' w.heap.size (fun _ => True) aa r ∧ Below w.heap.size w w' := history_Ancestors.callz k (fun k_ => k_ < w.heap.size) A0 c0 l0 a1 r w (Kd.V_mk ac (Kd.C_F k28_heap ab)) h

/-! ### history_Between: function 26 (by hand) -/
open Go.Maps Go.Proofs.YtgadbpljlpclnaaGreatDoor.Q Go.Sort Go.Shelf
@[go_sem] theorem run_store_func_ {P : Program} {w : World} {a : Addr} {m : Mode} (fn : Fn) (first captured : Array Value) : (store a (.func fn first captured) m).run P w = stored P w a (.func fn first captured) m := run_store P w a _ m rfl
set_option maxHeartbeats 2000000 in
set_option maxRecDepth 1000000 in
theorem idxfunc_none (a : Option Addr) (c : Nat) (fv : Value) (w : World) :
    Calls Tryz.prog 62 #[.slice a 0 c, fv] w fun e w' => e = .returned (.int .i64 (-1)) ∧ w' = w := by
  go_enter Tryz.func62, Tryz.ntmps62
  go_wp2
  go_loopg [5, 8] 0 (fun _ _ s8 wr => s8 = .int .i64 0 ∧ wr = w)
  case atStart => exact ⟨rfl, rfl⟩
  case round =>
    obtain ⟨rfl, rfl⟩ := hrel
    go_wp2
    go_ret
    exact ⟨rfl, rfl⟩
set_option maxHeartbeats 2000000 in
set_option maxRecDepth 1000000 in
theorem delfunc_none (a : Option Addr) (c : Nat) (fv : Value) (w : World) :
    Calls Tryz.prog 43 #[.slice a 0 c, fv] w fun e w' => e = .returned (.slice a 0 c) ∧ w' = w := by
  go_enter Tryz.func43, Tryz.ntmps43
  go_wp2_with (go_at_call 62; refine (idxfunc_none _ _ _ _).mono ?_; rintro e w' ⟨rfl, rfl⟩)
  go_ret
  exact ⟨rfl, rfl⟩
/-- A number that a map takes as its key. -/
abbrev KI := {x : Int // okV x = true}
instance : Inhabited KI := ⟨⟨0, rfl⟩⟩
def encK (x : KI) : Value := .int .i64 x.1
def toK (l : List Int) (h : ∀ x ∈ l, okV x = true) : List KI := l.pmap (fun x hx => ⟨x, hx⟩) h
theorem toK_len (l : List Int) (h : ∀ x ∈ l, okV x = true) : (toK l h).length = l.length := by simp [toK]
theorem toK_filter (p : Int → Bool) : ∀ (l : List Int) (h : ∀ x ∈ l, okV x = true), ((toK l h).filter fun x => !p x.1).map (·.1) = l.filter fun x => !p x
  | [], _ => rfl
  | x :: l, h => by
    have ih := toK_filter p l (fun y hy => h y (List.mem_cons_of_mem _ hy))
    unfold toK at ih ⊢
    rw [List.pmap_cons]
    by_cases c : p x = true
    · rw [List.filter_cons_of_neg (by simpa using c), List.filter_cons_of_neg (by simpa using c)]; exact ih
    · rw [List.filter_cons_of_pos (by simpa using c), List.filter_cons_of_pos (by simpa using c), List.map_cons, ih]
theorem putRow_enc {w : World} {blk off : Nat} (d : List KI) : putRow encK w blk off d.toArray = putRow (Value.int .i64) w blk off (d.map (·.1)).toArray := by
  unfold putRow putCells
  congr 1
  funext c
  congr 1
  funext k x
  simp only [List.size_toArray, List.length_map]
  split
  · rename_i hk
    rw [getElem!_pos d.toArray (k - off) (by simp; omega), getElem!_pos (d.map (·.1)).toArray (k - off) (by simp; omega)]
    simp [encK]
  · rfl
theorem heap_putRow_other {α : Type} [Inhabited α] (enc : α → Value) (w : World) (blk off : Nat) (d : Array α) {k : Nat} (h : k ≠ blk) : (putRow enc w blk off d).heap[k]? = w.heap[k]? := by
  simp only [putRow, mapBlock, Array.getElem?_modify]
  rw [if_neg (Ne.symm h)]
theorem del_rowI {W w : World} {v : Value} {l : List Int} (hlv : ∀ x ∈ l, okV x = true) (p : Int → Bool) (g : Nat) (lb : Array Value) (eg : ∀ args w, (callFunc g args).run Tryz.prog w = .ok (.enter g args) w)
    (ho : W.ownsRow w.heap.size 3 1 v l.length (l.map (Value.int .i64))) (hB : Below w.heap.size w W) (hl : l.length < 1000000000)
    (hq : ∀ W' : World, W.grownBy W' v.ownBlock → ∀ x : Int, okV x = true → FnGives Tryz.prog g lb #[.int .i64 x] (.bool (p x)) W') :
    Calls Tryz.prog 43 #[v, .func (.func g) #[] lb] W fun e w' => ∃ v', e = .returned v' ∧ Kd.R (Kd.int .i64) 3 w' w.heap.size (fun _ => True) v' (l.filter fun x => !p x) ∧ Below w.heap.size w w' := by
  by_cases hv : v = .slice none 0 0
  · subst hv
    obtain rfl : l = [] := by
      rcases ho.2 with ⟨_, h0⟩ | ⟨g, cap, cur, h1, _⟩
      · exact List.eq_nil_of_length_eq_zero h0
      · cases h1
    refine (delfunc_none _ _ _ _).mono ?_
    rintro e w' ⟨rfl, rfl⟩
    exact ⟨_, rfl, Kd.R_nil _ _ _ _ _, hB⟩
  · obtain ⟨b, cap, rfl, hg, hlt, hn, hm, hll, hH⟩ := Lib.holds_of_ownsRow ho hv
    have hH2 : Holds encK W b 0 (toK l hlv).toArray := fun j hj => by
      have hj2 : j < l.length := by simpa [toK_len] using hj
      have := hH j (by simpa using hj2)
      rw [getElem!_pos l.toArray j (by simpa using hj2)] at this
      rw [getElem!_pos (toK l hlv).toArray j (by simpa [toK_len] using hj2)]
      simpa [encK, toK] using this
    have hc := Tryz.slices_DeleteFunc encK (fun _ => rfl) (fun x => p x.1) g lb eg ⟨0, rfl⟩ Tryz.zeroValue3 b 0 cap (toK l hlv).toArray W (fun W' x hb => hq W' (grown_of_below hb _) x.1 x.2)
      (fun n os dk x hd => hq (sortWorld encK W b 0 n dk os) ⟨rfl, rfl, rfl, by unfold sortWorld; show W.heap.size ≤ ((putRow encK (Sort.ahead W n) b 0 dk).heap ++ os).size; rw [Array.size_append, size_putRow]; exact Nat.le_add_right _ _, fun k hk h2 => by
        unfold sortWorld
        rw [heap_grow_old _ _ (by rw [size_putRow]; exact hk), heap_putRow_other _ _ _ _ _ (fun e => h2 (by rw [e]; rfl))]
        rfl⟩ x.1 x.2) hH2 (by simp [toK_len]; omega) (by simpa [toK_len] using hn)
    simp only [List.size_toArray, toK_len] at hc
    refine hc.mono ?_
    rintro e w' ⟨rfl, q, rfl⟩
    have hfk := toK_filter p l hlv
    have hfn : ((toK l hlv).filter fun x => !p x.1).length = (l.filter fun x => !p x).length := by rw [← hfk, List.length_map]
    have hfl : (l.filter fun x => !p x).length ≤ l.length := List.length_filter_le _ _
    have h3 := Lib.ownsRow_putRow (q := q) (k := (l.filter fun x => !p x).length) (ys := (l.filter fun x => !p x) ++ List.replicate (l.length - (l.filter fun x => !p x).length) 0) ho (by simp; omega) hfl
    rw [List.take_append_of_le_length (Nat.le_refl _), List.take_length] at h3
    rw [putRow_enc, List.map_append, List.map_replicate, hfk, hfn]
    exact ⟨_, rfl, Kd.R_of_own h3 (fun _ _ => trivial), Lib.below_putRow hB hg⟩
theorem ancL_ok {l : List S28} (hl : okHs l = true) : ∀ (k : Nat) (td m r : List Int), (∀ x ∈ m, okV x = true) → ancL l k td m = some r → ∀ x ∈ r, okV x = true
  | 0, _, _, _, _, h => by cases h
  | k + 1, [], m, r, hm, h => by obtain rfl := Option.some.inj h; exact hm
  | k + 1, x :: td, m, r, hm, h => by
    rw [ancL] at h
    split at h
    · exact ancL_ok hl k _ _ _ hm h
    · rename_i hg
      split at h
      · exact ancL_ok hl k _ _ _ hm h
      · split at h
        · refine ancL_ok hl k _ _ _ (fun y hy => ?_) h
          rcases List.mem_cons.1 hy with e | hy
          · rw [e]; exact okHs_id hl hg
          · exact hm y hy
        · cases h
theorem ancs_ok {k : Nat} {l : List S28} {a : Int} {m : List Int} (h : history_ancestors.f k l a = some m) : (∀ x ∈ m, okV x = true) ∧ m.length ≤ 1000000 := by
  unfold history_ancestors.f at h
  split at h
  case isFalse => cases h
  rename_i hh
  obtain ⟨m1, h1, h2⟩ := Option.bind_eq_some_iff.1 h
  split at h2
  case isFalse => cases h2
  rename_i hl
  obtain rfl := Option.some.inj h2
  exact ⟨ancL_ok hh.2 _ _ _ _ (fun x hx => by cases hx) h1, hl⟩
theorem Ancs_ok {k : Nat} {l : List S28} {a : Int} {m : List Int} (h : history_Ancestors.f k l a = some m) : (∀ x ∈ m, okV x = true) ∧ m.length ≤ 1000000 := by
  unfold history_Ancestors.f at h
  obtain ⟨m1, h1, rfl⟩ := Option.map_eq_some_iff.1 h
  have h2 := ancs_ok h1
  exact ⟨fun x hx => h2.1 x ((mem_uniq _ _).1 hx), Nat.le_trans (uniq_len _) h2.2⟩
theorem between1_gives {W : World} {B b n : Nat} {m : List Int} (hb : W.cell? ⟨B, 0, none⟩ = some (.map (some b))) (hS : ST Tryz.prog 3 4 W b n m) (x : Int) (hx : okV x = true) :
    FnGives Tryz.prog 44 #[.pointer (some ⟨B, 0, none⟩)] #[.int .i64 x] (.bool (decide (x ∈ m))) W := by
  show Calls Tryz.prog 44 #[.int .i64 x, .pointer (some ⟨B, 0, none⟩)] W _
  have HS := aK hS
  have HK := aK (keyI_ok hx)
  clear hS hx
  go_enter Tryz.func44, Tryz.ntmps44
  go_wp2_with (first
    | (at_lookup
       refine wpList_lookup_setI _ rfl _ _ 62 rfl 3 4 lawI Tryz.underlying62 Tryz.underlying4 (zeroB _) b n m rfl HS.out x rfl HK.out ?_))
  go_ret
  exact ⟨rfl, 0, rfl⟩
def history_Between.f (k : Nat) (l0 : List S28) (a1 a2 : Int) : Option (List Int) := (history_ancestors.f k l0 a1).bind fun n => (history_Ancestors.f k l0 a2).map fun r => r.filter fun x => !decide (x ∈ n)
theorem history_Between.mono : ∀ a0 a1 a2 k, LeO (history_Between.f k a0 a1 a2) (history_Between.f (k + 1) a0 a1 a2) := by
  intro a0 a1 a2 k
  unfold history_Between.f
  refine LeO.bind (history_ancestors.mono _ _ _) (fun n => ?_)
  intro r h
  obtain ⟨m, h1, rfl⟩ := Option.map_eq_some_iff.1 h
  rw [history_Ancestors.mono _ _ _ _ h1]
  rfl
theorem history_Between.calls (k : Nat) (A0 : Option Addr) (c0 : Nat) (l0 : List (S28)) (a1 : Int) (a2 : Int) (r : List Int) (w : World) (ae : Kd.C k28 w A0 l0.length l0) (af : l0.length ≤ c0) (h : history_Between.f k l0 a1 a2 = some r) :
    Calls Tryz.prog 26 #[.slice A0 l0.length c0, .int .i64 a1, .int .i64 a2] w fun e w' => ∃ ag : Value, e = .returned (ag) ∧ Kd.R (Kd.int .i64) 3 w' w.heap.size (fun _ => True) ag r ∧ Below w.heap.size w w' := by
  unfold history_Between.f at h
  obtain ⟨n, h1, h2⟩ := Option.bind_eq_some_iff.1 h
  obtain ⟨m, h3, rfl⟩ := Option.map_eq_some_iff.1 h2
  have HV := aK (Kd.V_mk (e := 28) (base := w.heap.size) af (Kd.C_F k28_heap ae))
  have hcl := aK (history_ancestors.calls_ k (fun k => k < w.heap.size) A0 c0 l0 a1 n w HV.out h1)
  have H3 := aK h3
  clear h h1 h2 h3 ae af
  go_enter Tryz.func26, Tryz.ntmps26
  go_wp2_with fail
  go_at_call 40
  refine hcl.out.mono ?_
  rintro e w4 ⟨b, rfl, ai, ac, aa⟩
  have HB := aK (aa.alloc aa.size (Obj.cells #[Value.map (some b)] 62))
  have HM := aK (ac.below (below_alloc (Below.refl _ _) (Obj.cells #[Value.map (some b)] 62)))
  have HBX := aK (show (w4.alloc (Obj.cells #[Value.map (some b)] 62)).cell? ⟨w4.heap.size, 0, none⟩ = some (.map (some b)) by simp)
  have HBL := aK (show b < w4.heap.size from ac.lt)
  have aj := aK aa.size
  clear hcl ai ac aa
  go_wp2_with fail
  go_at_call 22
  refine (history_Ancestors.callz k (fun k => k < w.heap.size) A0 c0 l0 a2 m (w4.alloc (Obj.cells #[Value.map (some b)] 62)) (Kd.V_below HV.out HB.out) H3.out).mono ?_
  rintro e w5 ⟨v, rfl, ad, ab⟩
  have hown := Kd.own_of_R (Kd.R_lower ad HB.out.size)
  have hbs := Kd.R_base ad
  have ah := below_then HB.out HB.out.size ab
  have hok := Ancs_ok H3.out
  have hd := aK (del_rowI hok.1 (fun x => decide (x ∈ n)) 44 #[.pointer (some ⟨w4.heap.size, 0, none⟩)] (enters_of Tryz.func44 (by kernel_rfl) rfl) hown ah (by have := hok.2; omega)
    (fun W' hg x hx => between1_gives (hg.cell ((ab.cell (by simp)).trans HBX.out) (fun e => by have := hbs _ e.symm; simp at this; omega)) ((HM.out.below ab).grown hg (fun e => by have := hbs _ e.symm; have := HBL.out; simp at *; omega)) x hx))
  clear HB HM HBX HBL aj ad ab hown hbs ah hok
  go_wp2_with fail
  go_at_call 43
  refine hd.out.mono ?_
  rintro e w6 ⟨v', rfl, hR, hB⟩
  have HR := aK hR
  have HB := aK hB
  clear hd hR hB
  go_wp2
  go_ret
  exact ⟨_, rfl, HR.out, HB.out⟩

end Go.Proofs.YtgadbpljlpclnaaGreatDoor.H
