-- Written by hp.py, a program of this session, over the kit's print of the translation. Not trusted: Lean checks it.
import Derived.Test.YtihfpmociffpeaaCx0
namespace Go.Proofs.Ytihfpmociffpeaa.C
open Go.RowKit Go.Proofs.YtihfpmociffpeaaW.PrintWords Go.Proofs.YtihfpmociffpeaaW.PrintLast Go.Proofs.YtihfpmociffpeaaW.PrintMore
attribute [local go_sem] max2_int min2_int max_two min_two max_three min_three max_four min_four   -- for this text's walks alone
set_option linter.unusedVariables false
set_option linter.unusedSimpArgs false

/-! ### checksum_table: function 42 (by hand) -/
def crcStep (x : Int) : Int := if Go.bits .and .u32 x 1 = 1 then Go.bits .xor .u32 (x / 2) 2197175160 else x / 2
def crcSteps : Nat → Int → Int
  | 0, x => x
  | j + 1, x => crcStep (crcSteps j x)
def tabV (i : Nat) : Int := crcSteps 4 (i : Int)
def tabA (k : Nat) : Array Value := ((List.range 16).map fun i => Value.int .u32 (if i < k then tabV i else 0)).toArray
theorem tabA_size (k : Nat) : (tabA k).size = 16 := by simp [tabA]
theorem tabA_set (k : Nat) (h : k < 16) : (tabA k).setIfInBounds k (.int .u32 (tabV k)) = tabA (k + 1) := by
  apply Array.ext_getElem?
  intro j
  rw [Array.getElem?_setIfInBounds]
  simp only [tabA, List.getElem?_toArray, List.getElem?_map, List.size_toArray, List.length_map, List.length_range]
  by_cases hj : j < 16
  · rw [List.getElem?_range hj]
    by_cases e : k = j
    · subst e; simp [h]
    · simp [e]
      by_cases h2 : j < k
      · simp [h2]; omega
      · rw [if_neg h2, if_neg (by omega)]
  · rw [List.getElem?_eq_none (by simp; omega)]
    simp; omega
theorem tabA_one : (tabA 16).all (·.oneCell') = true := by
  simp [tabA, Value.oneCell']
theorem bits_nonneg_u32 (op : BinOp) (x y : Int) : 0 ≤ Go.bits op .u32 x y := by
  unfold Go.bits
  simp only [IntKind.wrap, IntKind.bits, IntKind.signed]
  simp
  omega
theorem crcStep_nonneg (x : Int) (h : 0 ≤ x) : 0 ≤ crcStep x := by
  unfold crcStep
  split
  · exact bits_nonneg_u32 _ _ _
  · omega
theorem crcSteps_nonneg (j : Nat) (x : Int) (h : 0 ≤ x) : 0 ≤ crcSteps j x := by
  induction j with
  | zero => exact h
  | succ j ih => exact crcStep_nonneg _ ih
set_option maxHeartbeats 4000000 in
set_option maxRecDepth 100000 in
theorem checksum_table.calls (w : World) :
    Calls Try.prog 42 #[] w fun e w' => e = .returned (.agg (tabA 16)) ∧ Below w.heap.size w w' := by
  go_enter Try.func42, Try.ntmps42
  go_wp2
  have z0 : #[Value.int IntKind.u32 0, Value.int IntKind.u32 0, Value.int IntKind.u32 0, Value.int IntKind.u32 0, Value.int IntKind.u32 0, Value.int IntKind.u32 0, Value.int IntKind.u32 0, Value.int IntKind.u32 0, Value.int IntKind.u32 0, Value.int IntKind.u32 0, Value.int IntKind.u32 0, Value.int IntKind.u32 0, Value.int IntKind.u32 0, Value.int IntKind.u32 0, Value.int IntKind.u32 0, Value.int IntKind.u32 0] = tabA 0 := rfl
  rw [z0]
  clear z0
  generalize hW0 : (w.alloc (.cells (tabA 0) 62)).alloc (.cells (tabA 0) 62) = W0
  have h0 : Aside0 (W0.heap[w.heap.size]? = some (.cells (tabA 0) 62 (0, 0))) := ⟨by subst hW0; exact (((Below.refl (w.alloc (.cells (tabA 0) 62)).heap.size (w.alloc (.cells (tabA 0) 62))).alloc (Nat.le_refl _) (.cells (tabA 0) 62)).block w.heap.size (by simp)).trans (by simpa using heap_alloc_new w (.cells (tabA 0) 62))⟩
  have h1 : Aside0 (W0.heap[w.heap.size + 1]? = some (.cells (tabA 0) 62 (0, 0))) := ⟨by subst hW0; simpa using heap_alloc_new (w.alloc (.cells (tabA 0) 62)) (.cells (tabA 0) 62)⟩
  have hB : Aside0 (Below w.heap.size w W0) := ⟨by subst hW0; exact ((Below.refl _ _).alloc (Nat.le_refl _) _).alloc (by simp) _⟩
  clear hW0
  go_loopw [4] (fun i W => ∃ k : Nat, i = .int .i64 k ∧ Aside0 (k ≤ 16) ∧ Aside0 (W.heap[w.heap.size + 1]? = some (.cells (tabA k) 62 (0, 0))) ∧ Aside0 (W.heap[w.heap.size]? = some (.cells (tabA 0) 62 (0, 0))) ∧ Aside0 (Below w.heap.size w W)) (fun i _ => 16 - (intOf i).toNat)
  case atStart => exact ⟨0, rfl, ⟨by omega⟩, h1, h0, hB⟩
  case round =>
    clear h0 h1 hB
    obtain ⟨k, rfl, hk, h1, h0, hB⟩ := hrel
    by_cases hlt : (k : Int) < 16
    · have hd : decide ((k : Int) < 16) = true := decide_eq_true hlt
      have hk0 : 0 ≤ (k : Int) := by omega
      have hge : 0 ≤ (k : Int) := hk0
      go_wp2
      have hsteps : ∀ j : Nat, 0 ≤ crcSteps j (k : Int) := fun j => crcSteps_nonneg j _ hk0
      go_loop [3, 9] (fun x j => ∃ n : Nat, x = .int .u32 (crcSteps n (k : Int)) ∧ j = .int .i64 n ∧ Aside0 (n ≤ 4)) (fun _ j => 4 - (intOf j).toNat)
      case atStart => exact ⟨0, rfl, rfl, ⟨by omega⟩⟩
      case round =>
        obtain ⟨n, rfl, rfl, hn⟩ := hrel
        have hx0 := hsteps n
        clear hsteps
        by_cases hln : (n : Int) < 4
        · have hdn : decide ((n : Int) < 4) = true := decide_eq_true hln
          have hn0 : 0 ≤ (n : Int) := by omega
          by_cases hb : Go.bits .and .u32 (crcSteps n (k : Int)) 1 = 1
          · have hbb : (Go.bits .and .u32 (crcSteps n (k : Int)) 1 == 1) = true := beq_iff_eq.mpr hb
            have hst : crcStep (crcSteps n (k : Int)) = Go.bits .xor .u32 (crcSteps n (k : Int) / 2) 2197175160 := if_pos hb
            have HST := Aside0.mk hst
            clear hst hb
            go_wp2
            go_round
            case rel => exact ⟨n + 1, by rw [crcSteps, HST.out], by go_num, ⟨by omega⟩⟩
            case measure => simp [intOf]; omega
          · have hbb : (Go.bits .and .u32 (crcSteps n (k : Int)) 1 == 1) = false := beq_eq_false_iff_ne.mpr hb
            have hst : crcStep (crcSteps n (k : Int)) = crcSteps n (k : Int) / 2 := if_neg hb
            have HST := Aside0.mk hst
            clear hst hb
            go_wp2
            go_round
            case rel => exact ⟨n + 1, by rw [crcSteps, HST.out], by go_num, ⟨by omega⟩⟩
            case measure => simp [intOf]; omega
        · have hdn : decide ((n : Int) < 4) = false := decide_eq_false hln
          obtain rfl : n = 4 := by have := hn.out; omega
          have hv : tabV k = crcSteps 4 (k : Int) := rfl
          generalize crcSteps 4 (k : Int) = v at *
          have HV := Aside0.mk hv
          clear hv
          have hk16 : k < 16 := by omega
          have hc1 : wr.cell? ⟨w.heap.size + 1, k, none⟩ = some (.int .u32 0) := by
            rw [blk_cell h1.out k]; simp [tabA, hk16]
          have hf1 : wr.frozen? ⟨w.heap.size + 1, k, none⟩ = false := blk_frozen h1.out k
          go_wp2
          go_roundw
          case rel =>
            refine ⟨k + 1, by go_num, ⟨by omega⟩, ⟨?_⟩, ⟨blk_far h0.out (by simp) _⟩, ⟨hB.out.setCell (by simp) _⟩⟩
            rw [← tabA_set k (by omega), HV.out]
            exact blk_set h1.out k _
          case measure => simp [intOf]; omega
    · have hd : decide ((k : Int) < 16) = false := decide_eq_false hlt
      obtain rfl : k = 16 := by have := hk.out; omega
      have hsz : (Try.prog.info? 62).map (·.size) = some (tabA 16).size := by rw [tabA_size]; kernel_rfl
      have H1 := Aside0.mk h1.out
      have HZ := Aside0.mk hsz
      clear hsz
      go_wp2_with (first | (refine wpList_load_row rfl 62 (.tmp 1) rfl (w.heap.size + 1) rfl 62 (tabA 16) (0, 0) _ H1.out Try.underlying62 rfl HZ.out ?_) | (refine wpList_store_row rfl 62 (.tmp 0) (.tmp 24) rfl w.heap.size (tabA 16) rfl rfl 62 (tabA 0) h0.out HZ.out (by rw [tabA_size, tabA_size]) tabA_one ?_))
      have hz := setRow_heap wr w.heap.size (tabA 0) (tabA 16) 62 (0, 0) h0.out
      refine bodyPost_ret (results_cell_row rfl _ _ w.heap.size 62 (tabA 16) (0, 0) _ rfl hz Try.underlying62 rfl HZ.out) rfl ?_
      exact ⟨rfl, ⟨hB.out.os, hB.out.tape, hB.out.output, by simpa using hB.out.size, fun i hi => (setRow_other _ _ _ _ (Nat.ne_of_lt hi)).trans (hB.out.block i hi)⟩⟩

/-! ### checksum_Extend: function 34 (by hand) -/
def tabZ (i : Int) : Int := tabV i.toNat
theorem tabA_get (i : Int) (h0 : 0 ≤ i) (h1 : i < 16) : (tabA 16)[i.toNat]? = some (.int .u32 (tabZ i)) := by
  have h : i.toNat < 16 := by omega
  simp [tabA, tabZ, h]
theorem and15 (x : Int) : 0 ≤ Go.bits .and .u32 x 15 ∧ Go.bits .and .u32 x 15 < 16 := by
  refine ⟨bits_nonneg_u32 _ _ _, ?_⟩
  unfold Go.bits
  have h : (BitVec.ofInt IntKind.u32.bits x &&& BitVec.ofInt IntKind.u32.bits 15).toNat ≤ 15 := by
    rw [BitVec.toNat_and]
    exact Nat.le_trans Nat.and_le_right (by decide)
  show IntKind.u32.wrap ((BitVec.ofInt IntKind.u32.bits x &&& BitVec.ofInt IntKind.u32.bits 15).toNat : Int) < 16
  rw [IntKind.wrap_u32]
  omega
def crcHalf (x : Int) : Int := Go.bits .xor .u32 (x / 16) (tabZ (Go.bits .and .u32 x 15))
def crcIn (x c : Int) : Int := crcHalf (crcHalf (Go.bits .xor .u32 x (c % 4294967296)))
def checksum_Extend.f (a0 : Int) (l1 : List Int) : Option Int := some (Go.bits .xor .u32 4294967295 (l1.foldl crcIn (Go.bits .xor .u32 4294967295 a0)))
theorem foldl_take (l : List Int) (z : Int) (i : Nat) (h : i < l.length) : (l.take (i + 1)).foldl crcIn z = crcIn ((l.take i).foldl crcIn z) (rd l (i : Int)) := by
  rw [List.take_succ_eq_append_getElem h, List.foldl_append]
  simp [rd, List.getD_eq_getElem?_getD, List.getElem?_eq_getElem h]
set_option maxHeartbeats 4000000 in
set_option maxRecDepth 100000 in
theorem checksum_Extend.calls (a0 : Int) (A1 : Option Addr) (c1 : Nat) (l1 : List Int) (r : Int) (w : World) (hr1 : Kd.C (Kd.int .u8) w A1 l1.length l1) (hc1 : l1.length ≤ c1) (h : checksum_Extend.f a0 l1 = some r) :
    Calls Try.prog 34 #[.int .u32 a0, .slice A1 l1.length c1] w fun e w' => e = .returned (.int .u32 r) ∧ Below w.heap.size w w' := by
  obtain rfl := Option.some.inj h
  clear h
  have HR := Aside0.mk hr1
  clear hr1
  have hm : (l1.length : Int) ≤ 9223372036854775807 := by have := HR.out.2.1; omega
  have hsz : (Try.prog.info? 62).map (·.size) = some (tabA 16).size := by rw [tabA_size]; kernel_rfl
  have HZ := Aside0.mk hsz
  clear hsz
  have hsg : IntKind.u32.signed = false := rfl
  have hmx : IntKind.u32.max = 4294967295 := rfl
  go_enter Try.func34, Try.ntmps34
  go_wp2_with fail
  refine (checksum_table.calls _).mono ?_
  rintro e w1 ⟨rfl, hb⟩
  have HB := Aside0.mk (hb.alloc hb.size (.cells #[Value.int IntKind.u32 0, Value.int IntKind.u32 0, Value.int IntKind.u32 0, Value.int IntKind.u32 0, Value.int IntKind.u32 0, Value.int IntKind.u32 0, Value.int IntKind.u32 0, Value.int IntKind.u32 0, Value.int IntKind.u32 0, Value.int IntKind.u32 0, Value.int IntKind.u32 0, Value.int IntKind.u32 0, Value.int IntKind.u32 0, Value.int IntKind.u32 0, Value.int IntKind.u32 0, Value.int IntKind.u32 0] 62))
  have H5 := Aside0.mk (heap_alloc_new w1 (.cells #[Value.int IntKind.u32 0, Value.int IntKind.u32 0, Value.int IntKind.u32 0, Value.int IntKind.u32 0, Value.int IntKind.u32 0, Value.int IntKind.u32 0, Value.int IntKind.u32 0, Value.int IntKind.u32 0, Value.int IntKind.u32 0, Value.int IntKind.u32 0, Value.int IntKind.u32 0, Value.int IntKind.u32 0, Value.int IntKind.u32 0, Value.int IntKind.u32 0, Value.int IntKind.u32 0, Value.int IntKind.u32 0] 62))
  have HS := Aside0.mk hb.size
  clear hb
  go_wp2_with (first | (refine wpList_store_row rfl 62 (.tmp 5) (.tmp 9) rfl w1.heap.size (tabA 16) rfl rfl 62 _ H5.out HZ.out (by rw [tabA_size]; rfl) tabA_one ?_))
  have H6 := Aside0.mk (setRow_heap _ _ _ (tabA 16) _ _ H5.out)
  have HB2 := Aside0.mk (show Below w.heap.size w ((w1.alloc (.cells #[Value.int IntKind.u32 0, Value.int IntKind.u32 0, Value.int IntKind.u32 0, Value.int IntKind.u32 0, Value.int IntKind.u32 0, Value.int IntKind.u32 0, Value.int IntKind.u32 0, Value.int IntKind.u32 0, Value.int IntKind.u32 0, Value.int IntKind.u32 0, Value.int IntKind.u32 0, Value.int IntKind.u32 0, Value.int IntKind.u32 0, Value.int IntKind.u32 0, Value.int IntKind.u32 0, Value.int IntKind.u32 0] 62)).setRow w1.heap.size (tabA 16)) from ⟨HB.out.os, HB.out.tape, HB.out.output, by simpa using HB.out.size, fun i hi => (setRow_other _ _ _ _ (Nat.ne_of_lt (Nat.lt_of_lt_of_le hi HS.out))).trans (HB.out.block i hi)⟩)
  generalize (w1.alloc (.cells #[Value.int IntKind.u32 0, Value.int IntKind.u32 0, Value.int IntKind.u32 0, Value.int IntKind.u32 0, Value.int IntKind.u32 0, Value.int IntKind.u32 0, Value.int IntKind.u32 0, Value.int IntKind.u32 0, Value.int IntKind.u32 0, Value.int IntKind.u32 0, Value.int IntKind.u32 0, Value.int IntKind.u32 0, Value.int IntKind.u32 0, Value.int IntKind.u32 0, Value.int IntKind.u32 0, Value.int IntKind.u32 0] 62)).setRow w1.heap.size (tabA 16) = W at H6 HB2 ⊢
  generalize w1.heap.size = g at H6 ⊢
  clear H5 HB
  go_loop [6, 14] (fun x j => ∃ n : Nat, x = .int .u32 ((l1.take n).foldl crcIn (Go.bits .xor .u32 4294967295 a0)) ∧ j = .int .i64 n ∧ Aside0 (n ≤ l1.length)) (fun _ j => l1.length - (intOf j).toNat)
  case atStart =>
    exact ⟨0, rfl, rfl, ⟨Nat.zero_le _⟩⟩
  case round =>
    obtain ⟨n, rfl, rfl, hn⟩ := hrel
    by_cases hlt : (n : Int) < (l1.length : Int)
    · have hd : decide ((n : Int) < (l1.length : Int)) = true := decide_eq_true hlt
      have hd2 : decide (n < l1.length) = true := decide_eq_true (by omega)
      have hn0 : 0 ≤ (n : Int) := by omega
      have hfold := foldl_take l1 (Go.bits .xor .u32 4294967295 a0) n (by omega)
      have HF := Aside0.mk hfold
      clear hfold
      generalize hx : (l1.take n).foldl crcIn (Go.bits .xor .u32 4294967295 a0) = x at HF ⊢
      clear hx
      obtain ⟨ad, e1, hc0⟩ := Kd.at_int (Kd.C_below HR.out HB2.out) (n : Int) hn0 (by omega)
      cases e1
      rw [Int.toNat_natCast] at hc0
      have b1 := and15 (Go.bits .xor .u32 x (rd l1 n % 4294967296))
      have b2 := and15 (crcHalf (Go.bits .xor .u32 x (rd l1 n % 4294967296)))
      have ht1 : W.cell? ⟨g, (Go.bits .and .u32 (Go.bits .xor .u32 x (rd l1 n % 4294967296)) 15).toNat, none⟩ = some (.int .u32 (tabZ (Go.bits .and .u32 (Go.bits .xor .u32 x (rd l1 n % 4294967296)) 15))) := by
        rw [blk_cell H6.out]; exact tabA_get _ b1.1 b1.2
      have ht2 : W.cell? ⟨g, (Go.bits .and .u32 (crcHalf (Go.bits .xor .u32 x (rd l1 n % 4294967296))) 15).toNat, none⟩ = some (.int .u32 (tabZ (Go.bits .and .u32 (crcHalf (Go.bits .xor .u32 x (rd l1 n % 4294967296))) 15))) := by
        rw [blk_cell H6.out]; exact tabA_get _ b2.1 b2.2
      have hp1 := bits_nonneg_u32 .xor x (rd l1 n % 4294967296)
      unfold crcHalf at ht2 b2
      go_wp2
      go_round
      case rel => exact ⟨n + 1, by rw [HF.out]; rfl, by go_num, ⟨by omega⟩⟩
      case measure => simp [intOf]; omega
    · have hd : decide ((n : Int) < (l1.length : Int)) = false := decide_eq_false hlt
      have hd2 : decide (n < l1.length) = false := decide_eq_false (by omega)
      obtain rfl : n = l1.length := by have := hn.out; omega
      rw [List.take_length]
      go_wp2
      go_ret
      exact ⟨rfl, HB2.out⟩

/-! ### checksum_Sum: function 32 -/
def checksum_Sum.f (l0 : List Int) : Option (Int) := (checksum_Extend.f 0 l0).bind fun t101 => (some t101)
set_option maxHeartbeats 4000000 in
set_option maxRecDepth 100000 in
theorem checksum_Sum.calls (A0 : Option Addr) (c0 : Nat) (l0 : List Int) (r : Int) (w : World) (hr0 : Kd.C (Kd.int .u8) w A0 l0.length l0) (hc0 : l0.length ≤ c0) (h : checksum_Sum.f l0 = some r) :
  Calls Try.prog 32 #[.slice A0 l0.length c0] w fun e w' => e = .returned (.int .u32 r) ∧ Below w.heap.size w w' := by
 have HR0 := Aside0.mk hr0
 have HC0 := Aside0.mk hc0
 clear hr0 hc0
 have HB := Aside0.mk (Below.refl w.heap.size w)
 have H : ((checksum_Extend.f 0 l0).bind fun t101 => (some t101)) = some r := h
 clear h
 replace H := Option.bind_eq_some_iff.mp H
 obtain ⟨t101, A20, H⟩ := H
 replace H : (some t101) = some r := H
 have A2 := Aside0.mk A20
 clear A20
 obtain rfl := Option.some.inj H
 go_enter Try.func32, Try.ntmps32
 go_wp2_with (first | ((with_reducible refine gate_callee (f := 34) rfl ?_); refine goesL_ (some 4) rfl rfl Try.func34 (by kernel_rfl) rfl #[.int .u32 0, .slice A0 l0.length c0] rfl (by (try simp only [List.map_toArray, List.map_cons, List.map_nil]); first | done | rfl | (simp only [List.length_drop, List.length_take]; rfl)) ?_; (with_reducible refine (checksum_Extend.calls 0 _ _ l0 t101 _ ?side1 ?side2 A2.out).mono ?_); (case side1 => repeat (first | exact HR0.out | (with_reducible refine Kd.C_alloc ?_ _) | (with_reducible refine Kd.C_drewN ?_ _) | (with_reducible refine Kd.C_drew ?_))); (case side2 => exact HC0.out); rintro e w3 ⟨rfl, hb⟩; refine ⟨_, rfl, ?_⟩; have n0_ := Aside0.mk (below_step (by repeat (first | (with_reducible first | exact HB.out | apply below_alloc | apply pw_below_drewN | apply below_drew1) | exact HB.out)) hb); clear HB; have HB := n0_; clear n0_; (try clear hb); (try clear hb2); (try clear hk); (try clear hi)))
 go_ret
 exact ⟨by first | rfl | (simp [errW_none, errW_some] <;> rfl) | (simp [*, errW_none, errW_some] <;> rfl), by repeat (first | (with_reducible first | exact HB.out | apply below_alloc | apply pw_below_drewN | apply below_drew1) | exact HB.out)⟩

/-! ### codesearchref01_Bytes: function 36 -/
def codesearchref01_Bytes.l0 : Nat → List Int → List Int → Int → Option (Bool)
 | 0, _, _, _ => none
 | k + 1, x0, x1, x5 => if x5 < (x0.length : Int) then (if 0 ≤ x5 then (if x5 < (x1.length : Int) then (if (rd x0 x5) = (rd x1 x5) then (codesearchref01_Bytes.l0 k x0 x1 (wrap64 (x5 + 1))) else (some false)) else (none)) else (none)) else (some true)
def codesearchref01_Bytes.f (k : Nat) (l0 : List Int) (l1 : List Int) : Option (Bool) := if (l0.length : Int) = (l1.length : Int) then (codesearchref01_Bytes.l0 k l0 l1 0) else (some false)
theorem codesearchref01_Bytes.mono_l : ∀ k, (∀ y0 y1 y2, LeO (codesearchref01_Bytes.l0 k y0 y1 y2) (codesearchref01_Bytes.l0 (k + 1) y0 y1 y2))
 | 0 => fun _ _ _ r h => by simp [codesearchref01_Bytes.l0] at h
 | k + 1 => by
  have ih0 := codesearchref01_Bytes.mono_l k
  ·intro y0 y1 y2
   unfold codesearchref01_Bytes.l0
   repeat' first
   | (with_reducible exact ih0 _ _ _)
   | (with_reducible exact LeO.refl _)
   | (with_reducible exact LeO.none _)
   | (with_reducible refine LeO.ite ?_ ?_)
   | (with_reducible refine LeO.bind ?_ (fun _ => ?_))
   | exact ih0 _ _ _
   | exact LeO.none _
   | refine LeO.ite ?_ ?_
   | refine LeO.bind ?_ (fun _ => ?_)
theorem codesearchref01_Bytes.mono : ∀ a0 a1 k, LeO (codesearchref01_Bytes.f k a0 a1) (codesearchref01_Bytes.f (k + 1) a0 a1) := by
 intro a0 a1 k
 have ih0 := codesearchref01_Bytes.mono_l k
 unfold codesearchref01_Bytes.f
 repeat' first
   | (with_reducible exact ih0 _ _ _)
   | (with_reducible exact LeO.refl _)
   | (with_reducible exact LeO.none _)
   | (with_reducible refine LeO.ite ?_ ?_)
   | (with_reducible refine LeO.bind ?_ (fun _ => ?_))
   | exact ih0 _ _ _
   | exact LeO.none _
   | refine LeO.ite ?_ ?_
   | refine LeO.bind ?_ (fun _ => ?_)
set_option maxHeartbeats 4000000 in
set_option maxRecDepth 100000 in
theorem codesearchref01_Bytes.calls (k : Nat) (A0 : Option Addr) (c0 : Nat) (l0 : List Int) (A1 : Option Addr) (c1 : Nat) (l1 : List Int) (r : Bool) (w : World) (hr0 : Kd.C (Kd.int .u8) w A0 l0.length l0) (hc0 : l0.length ≤ c0) (hr1 : Kd.C (Kd.int .u8) w A1 l1.length l1) (hc1 : l1.length ≤ c1) (h : codesearchref01_Bytes.f k l0 l1 = some r) :
  Calls Try.prog 36 #[.slice A0 l0.length c0, .slice A1 l1.length c1] w fun e w' => e = .returned (.bool r) ∧ Drawn0 w w' := by
 have HR0 := Aside0.mk hr0
 have HC0 := Aside0.mk hc0
 clear hr0 hc0
 have HR1 := Aside0.mk hr1
 have HC1 := Aside0.mk hc1
 clear hr1 hc1
 have H : (if (l0.length : Int) = (l1.length : Int) then (codesearchref01_Bytes.l0 k l0 l1 0) else (some false)) = some r := h
 clear h
 by_cases c3 : (l0.length : Int) = (l1.length : Int)
 ·rw [if_pos c3] at H
  have c3b0 : ((l0.length : Int) == (l1.length : Int)) = true := beq_iff_eq.mpr c3
  have c3b1 : ((l0.length : Int) != (l1.length : Int)) = false := bne_eq_false_iff_eq.mpr c3
  have c3b2 : (l0.length == l1.length) = true := by first | simpa using c3 | (simp at c3 ⊢; omega)
  clear c3
  have H' := Aside0.mk H
  clear H
  go_enter Try.func36, Try.ntmps36
  go_wp2
  repeat (go_quiet (fail); try go_wp2)
  go_loopg [5] k (fun kq v5 w' => ∃ (x5_1 : Int), v5 = .int .i64 x5_1 ∧ Aside0 (codesearchref01_Bytes.l0 kq l0 l1 x5_1 = some r) ∧ Aside0 (kq ≤ k) ∧ Drawn0 w w')
  case atStart => exact ⟨(0), (by first | rfl | (simp; done) | (simp [*]; done)), H', ⟨Nat.le_refl _⟩, by repeat (first | exact Drawn0.refl _ | apply Drawn0.step)⟩
  case round =>
   clear H'
   try clear c1
   try clear p2
   try clear c3
   try clear c3b0
   try clear c3b1
   try clear c3b2
   obtain ⟨x5_1, rfl, HA, HK1, ⟨m1, rfl⟩⟩ := hrel
   cases gk with
   | zero => exact absurd HA.out (by simp [codesearchref01_Bytes.l0])
   | succ k1 =>
    have H := HA.out
    clear HA
    simp only [codesearchref01_Bytes.l0] at H
    by_cases c4 : x5_1 < (l0.length : Int)
    ·rw [if_pos c4] at H
     have c4b0 : decide (x5_1 < (l0.length : Int)) = true := decide_eq_true c4
     clear c4
     by_cases c5 : 0 ≤ x5_1
     ·rw [if_pos c5] at H
      have c5b0 : decide (0 ≤ x5_1) = true := decide_eq_true c5
      clear c5
      by_cases c6 : x5_1 < (l1.length : Int)
      ·rw [if_pos c6] at H
       have c6b0 : decide (x5_1 < (l1.length : Int)) = true := decide_eq_true c6
       clear c6
       by_cases c7 : (rd l0 x5_1) = (rd l1 x5_1)
       ·rw [if_pos c7] at H
        have c7b0 : ((rd l0 x5_1) == (rd l1 x5_1)) = true := beq_iff_eq.mpr c7
        have c7b1 : ((rd l0 x5_1) != (rd l1 x5_1)) = false := bne_eq_false_iff_eq.mpr c7
        clear c7
        have H' := Aside0.mk H
        clear H
        have p102 : 0 ≤ (x5_1 : Int) := of_decide_eq_true (by first | (with_reducible assumption) | assumption)
        have q102 : x5_1 < (l0.length : Int) := of_decide_eq_true (by first | (with_reducible assumption) | assumption)
        obtain ⟨ad102, e102, hx102_0⟩ := Kd.at_int HR0.out x5_1 p102 q102
        cases e102
        replace p102 := eq_true p102
        replace q102 := eq_true q102
        have p103 : 0 ≤ (x5_1 : Int) := of_decide_eq_true (by first | (with_reducible assumption) | assumption)
        have q103 : x5_1 < (l1.length : Int) := of_decide_eq_true (by first | (with_reducible assumption) | assumption)
        obtain ⟨ad103, e103, hx103_0⟩ := Kd.at_int HR1.out x5_1 p103 q103
        cases e103
        replace p103 := eq_true p103
        replace q103 := eq_true q103
        go_wp2
        repeat (go_quiet (fail); try go_wp2)
        go_roundg k1
        case measure => have := HK1.out; omega
        case rel => exact ⟨(wrap64 (x5_1 + 1)), (by first | rfl | (simp; done) | (simp [*]; done)), H', ⟨by have := HK1.out; omega⟩, by repeat (first | exact Drawn0.refl _ | apply Drawn0.step)⟩
       ·rw [if_neg c7] at H
        have c7b0 : ((rd l0 x5_1) == (rd l1 x5_1)) = false := beq_eq_false_iff_ne.mpr c7
        have c7b1 : ((rd l0 x5_1) != (rd l1 x5_1)) = true := bne_iff_ne.mpr c7
        obtain rfl := Option.some.inj H
        have p102 : 0 ≤ (x5_1 : Int) := of_decide_eq_true (by first | (with_reducible assumption) | assumption)
        have q102 : x5_1 < (l0.length : Int) := of_decide_eq_true (by first | (with_reducible assumption) | assumption)
        obtain ⟨ad102, e102, hx102_0⟩ := Kd.at_int HR0.out x5_1 p102 q102
        cases e102
        replace p102 := eq_true p102
        replace q102 := eq_true q102
        have p103 : 0 ≤ (x5_1 : Int) := of_decide_eq_true (by first | (with_reducible assumption) | assumption)
        have q103 : x5_1 < (l1.length : Int) := of_decide_eq_true (by first | (with_reducible assumption) | assumption)
        obtain ⟨ad103, e103, hx103_0⟩ := Kd.at_int HR1.out x5_1 p103 q103
        cases e103
        replace p103 := eq_true p103
        replace q103 := eq_true q103
        go_wp2
        repeat (go_quiet (fail); try go_wp2)
        go_ret
        exact ⟨by first | rfl | (simp; done) | (simp [*]; done), by repeat (first | exact Drawn0.refl _ | apply Drawn0.step)⟩
      ·rw [if_neg c6] at H
       exact absurd H (by simp)
     ·rw [if_neg c5] at H
      exact absurd H (by simp)
    ·rw [if_neg c4] at H
     have c4b0 : decide (x5_1 < (l0.length : Int)) = false := decide_eq_false c4
     clear c4
     obtain rfl := Option.some.inj H
     go_wp2
     repeat (go_quiet (fail); try go_wp2)
     go_ret
     exact ⟨by first | rfl | (simp; done) | (simp [*]; done), by repeat (first | exact Drawn0.refl _ | apply Drawn0.step)⟩
 ·rw [if_neg c3] at H
  have c3b0 : ((l0.length : Int) == (l1.length : Int)) = false := beq_eq_false_iff_ne.mpr c3
  have c3b1 : ((l0.length : Int) != (l1.length : Int)) = true := bne_iff_ne.mpr c3
  have c3b2 : (l0.length == l1.length) = false := by first | simpa using c3 | (simp at c3 ⊢; omega)
  obtain rfl := Option.some.inj H
  go_enter Try.func36, Try.ntmps36
  go_wp2
  repeat (go_quiet (fail); try go_wp2)
  go_ret
  exact ⟨by first | rfl | (simp; done) | (simp [*]; done), by repeat (first | exact Drawn0.refl _ | apply Drawn0.step)⟩

/-! ### varint_Put: function 17 (by hand) -/
/-- The digits to the base 128, the lowest one first. -/
def enc7 : Nat → Int → List Int
  | 0, _ => []
  | k + 1, x => if x ≥ 128 then (x % 128 + 128) :: enc7 k (x / 128) else [x]
def varint_Put.f (l0 : List Int) (a1 : Int) : Option (List Int) := if l0.length + 10 < 140737488355328 then some (l0 ++ enc7 10 (IntKind.u64.wrap (mx a1 0))) else none
def varint_Put.l0 : Nat → List Int → Int → Option (List Int)
  | 0, _, _ => none
  | k + 1, x5, x6 => if x6 ≥ 128 then (if x5.length < 140737488355328 then (varint_Put.l0 k (x5 ++ [Go.bits .or .u8 (x6 % 256) 128]) (x6 / 128)) else (none)) else (if x5.length < 140737488355328 then (some (x5 ++ [x6 % 256])) else (none))
theorem bits_or128 (x : Int) (h0 : 0 ≤ x) : Go.bits .or .u8 (x % 256) 128 = x % 128 + 128 := by
  have h : ∀ a : Fin 256, Go.bits .or .u8 (a.val : Int) 128 = (a.val : Int) % 128 + 128 := by decide +kernel
  have h1 := h ⟨(x % 256).toNat, by omega⟩
  simp only at h1
  rw [show (((x % 256).toNat : Nat) : Int) = x % 256 from by omega] at h1
  rw [h1]; omega
theorem varint_Put.l0_enc (k : Nat) : ∀ (x5 : List Int) (x6 : Int), 0 ≤ x6 → x6 < 128 ^ (k + 1) → x5.length + k + 1 < 140737488355328 → varint_Put.l0 (k + 1) x5 x6 = some (x5 ++ enc7 (k + 1) x6) := by
  induction k with
  | zero =>
    intro x5 x6 h0 h1 h2
    have hn : ¬ x6 ≥ 128 := by omega
    rw [varint_Put.l0, enc7, if_neg hn, if_neg hn, if_pos (show x5.length < 140737488355328 by omega), show x6 % 256 = x6 from by omega]
  | succ k ih =>
    intro x5 x6 h0 h1 h2
    rw [varint_Put.l0, enc7]
    by_cases h : x6 ≥ 128
    · rw [if_pos h, if_pos h, if_pos (show x5.length < 140737488355328 by omega), bits_or128 x6 h0, ih _ _ (by omega) (by rw [Int.pow_succ] at h1; omega) (by simp; omega)]
      simp
    · rw [if_neg h, if_neg h, if_pos (show x5.length < 140737488355328 by omega), show x6 % 256 = x6 from by omega]
theorem wrap_u64_range (x : Int) : 0 ≤ IntKind.u64.wrap x ∧ IntKind.u64.wrap x < 18446744073709551616 := by
  simp [IntKind.wrap, IntKind.bits, IntKind.signed]; omega
theorem varint_Put.of_f {l0 : List Int} {a1 : Int} {r : List Int} (h : varint_Put.f l0 a1 = some r) : varint_Put.l0 10 l0 (IntKind.u64.wrap (mx a1 0)) = some r := by
  unfold varint_Put.f at h
  split at h
  · rw [varint_Put.l0_enc 9 l0 _ (wrap_u64_range _).1 (Int.lt_of_lt_of_le (wrap_u64_range _).2 (by decide)) (by omega)]; exact h
  · cases h
/-- A row of the call's own, or one that came in and has no room behind it. -/
def SrcU8 (w0 W : World) (v : Value) (xs : List Int) : Prop :=
  Kd.R (Kd.int .u8) 5 W w0.heap.size (fun _ => True) v xs ∨ ∃ A, v = .slice A xs.length xs.length ∧ (A = none → xs.length = 0) ∧ Kd.C (Kd.int .u8) W A xs.length xs
theorem src_below {w0 W W1 : World} {v : Value} {xs : List Int} (h : SrcU8 w0 W v xs) (hb : Below W.heap.size W W1) : SrcU8 w0 W1 v xs := by
  rcases h with h | ⟨A, h1, h2, h3⟩
  · exact .inl (Kd.R_below h hb)
  · exact .inr ⟨A, h1, h2, Kd.C_below h3 hb⟩
section
variable {P : Program} {ops : Array Oper} {rest : List Oper} {o : Oper} {a : Act} {Q : Exit → Act → World → Prop}
theorem src_append {w0 W : World} (hgd : o.guard = none) (s x : Operand) (t : TypeId)
    (ho : o.op = .call { callee := .builtin .append, args := #[s, x], argTypes := #[t, t] })
    (ht : P.underlying t = some (.slice 5)) (hinfo : (P.info? 5).map (fun i => (i.zero, i.size, i.bytes)) = some (some (.int .u8 0), 1, 1))
    (v : Value) (xs : List Int) (p : Int) (hs : a.eval s = v) (hx : a.eval x = .slice (some ⟨W.heap.size, 0, none⟩) 1 1)
    (HO : SrcU8 w0 W v xs) (HB : Below w0.heap.size w0 W) (hl : xs.length < 140737488355328)
    (h : ∀ v1 w1, Kd.R (Kd.int .u8) 5 w1 w0.heap.size (fun _ => True) v1 (xs ++ [p]) → Below w0.heap.size w0 w1 → wpList P ops Q rest (a.put o.dst v1) w1) :
    wpList P ops Q (o :: rest) a (W.alloc (.cells #[.int .u8 p] 5)) := by
  rcases HO with HO | ⟨A, rfl, hA, hC⟩
  · exact Kd.R_append (Kd.int .u8) (w0 := w0) w0.heap.size hgd s x t 5 (.int .u8 0) 1 ho ht hinfo rfl (by decide) (by omega) v xs p [.int .u8 p] (fun _ => True) (fun _ => False) hs hx rfl (fun _ hk => hk.elim) (fun _ _ => trivial) HO HB HB.size (by omega) (fun v1 w1 h1 h2 _ _ => h v1 w1 h1 h2)
  · obtain ⟨i0, hi, hzz⟩ := Option.map_eq_some_iff.1 hinfo
    simp only [Prod.mk.injEq] at hzz
    obtain ⟨hz0, hz1, hz2⟩ := hzz
    have hC' := readsInt_of.2 (Kd.reads_of_C (enc := Value.int .u8) (d := (0 : Int)) (h1 := fun _ => rfl) hC)
    refine wpList_append_grows (W.alloc (.cells #[.int .u8 p] 5)) hgd s x t ho 5 i0 (.int .u8 0) 1 1 ht hi hz0 hz1 hz2 rfl (by decide) A xs.length xs.length (nums .u8 xs) hs (fun e => ⟨hA e, hA e⟩) (by simp [nums_length])
      (fun b hb j u hj => ?_) ⟨W.heap.size, 0, none⟩ 1 1 [.int .u8 p] hx rfl
      (by simpa using World.news_of_block (cs := #[.int .u8 p]) (t := 5) (fr := (0, 0)) (heap_alloc_new W (.cells #[.int .u8 p] 5))) (by simp [Value.oneCell']) (by omega) (by simp only [maxLen]; omega) (by omega) ?_
    · have hjl : j < xs.length := by
        have := (List.getElem?_eq_some_iff.1 hj).1
        simpa [nums_length] using this
      obtain ⟨ad, e, hc⟩ := hC'.2.2 (by omega)
      subst hb
      cases e
      have h1 := hc j hjl
      have h2 : u = .int .u8 (xs.getD j 0) := by
        simp [nums, List.getElem?_eq_getElem hjl] at hj
        rw [← hj, List.getD_eq_getElem?_getD, List.getElem?_eq_getElem hjl]; rfl
      rw [h2]
      exact (Below.cell ((Below.refl W.heap.size W).alloc (Nat.le_refl _) _) (World.block_lt_of_cell? W _ h1)).trans h1
    · intro v' w' hown hg
      have hown' : w'.ownsRow w0.heap.size 5 1 v' (xs ++ [p]).length (encs (Value.int .u8) (xs ++ [p])) := by
        have : encs (Value.int .u8) (xs ++ [p]) = nums .u8 xs ++ [.int .u8 p] := by simp [encs, nums]
        rw [this, List.length_append, List.length_singleton]
        exact own_weaken hown (by have := HB.size; simp; omega)
      refine h v' w' (Kd.R_of_own hown' (fun _ _ => trivial)) ?_
      exact (HB.alloc HB.size _).grown hg (by have := HB.size; simp; omega) (fun k hk => by cases hk)
end
set_option maxHeartbeats 8000000 in
set_option maxRecDepth 100000 in
theorem varint_Put.calls (A0 : Option Addr) (c0 : Nat) (l0 : List Int) (a1 : Int) (r : List Int) (w : World) (hr0 : Kd.C (Kd.int .u8) w A0 l0.length l0) (hc0 : l0.length ≤ c0) (h : varint_Put.f l0 a1 = some r) :
    Calls Try.prog 17 #[.slice A0 l0.length c0, .int .i64 a1] w fun e w' => ∃ v0_ : Value, e = .returned (v0_) ∧ Kd.R (Kd.int .u8) 5 w' w.heap.size (fun _ => True) v0_ r ∧ Below w.heap.size w w' := by
  have HR0 := Aside0.mk hr0
  have HC0 := Aside0.mk hc0
  clear hr0 hc0
  have HB := Aside0.mk (Below.refl w.heap.size w)
  have H : (varint_Put.l0 10 l0 (IntKind.u64.wrap (mx a1 0))) = some r := varint_Put.of_f h
  clear h
  have H' := Aside0.mk H
  clear H
  have hcc := HC0.out
  have hc2 : (l0.length : Int) ≤ (c0 : Int) := by omega
  clear hcc
  obtain ⟨ji, hji⟩ : ∃ j_ : Int, (mx a1 0) = j_ := ⟨_, rfl⟩
  rw [hji] at H'
  have hji_ : (if a1 < 0 then 0 else a1) = ji := hji
  clear hji
  go_enter Try.func17, Try.ntmps17
  go_wp2
  go_loopg [5, 6] 10 (fun kq v5 v6 w' => ∃ (x5_1 : List Int) (x6_1 : Int), v6 = .int .u64 x6_1 ∧ Aside0 (varint_Put.l0 kq x5_1 x6_1 = some r) ∧ Aside0 (kq ≤ 10) ∧ Aside0 (SrcU8 w w' v5 x5_1) ∧ Aside0 (Below w.heap.size w w'))
  case atStart =>
    refine ⟨l0, IntKind.u64.wrap ji, rfl, H', ⟨Nat.le_refl _⟩, ⟨.inr ⟨A0, rfl, fun e => ?_, HR0.out⟩⟩, HB⟩
    rcases Nat.eq_zero_or_pos l0.length with hl | hl
    · exact hl
    · obtain ⟨ad, ea, _⟩ := HR0.out.2.2 hl
      rw [e] at ea
      cases ea
  case round =>
    clear H'
    obtain ⟨x5_1, x6_1, rfl, HA, HK1, HO_5, HB⟩ := hrel
    cases gk with
    | zero => exact absurd HA.out (by simp [varint_Put.l0])
    | succ k1 =>
      have H := HA.out
      clear HA
      simp only [varint_Put.l0] at H
      by_cases c3 : x6_1 ≥ 128
      · rw [if_pos c3] at H
        have c3b0 : decide (128 ≤ x6_1) = true := decide_eq_true c3
        clear c3
        by_cases c5 : x5_1.length < 140737488355328
        · rw [if_pos c5] at H
          have LMc5 := Aside0.mk c5
          clear c5
          obtain ⟨y1, hy1⟩ : ∃ y_ : List Int, y_ = x5_1 ++ [Go.bits .or .u8 (x6_1 % 256) 128] := ⟨_, rfl⟩
          rw [← hy1] at H
          have Ny1 := Aside0.mk hy1
          clear hy1
          have H' := Aside0.mk H
          clear H
          go_wp2_with (first | ((with_reducible refine gate_builtin (b := .append) (xs := #[.tmp 18, .tmp 22]) rfl ?_); at_builtin; refine src_append (w0 := w) rfl (.tmp 18) (.tmp 22) 22 rfl Try.underlying22 info5 u5 x5_1 (Go.bits .or .u8 (x6_1 % 256) 128) rfl rfl ?aO ?aB ?aL ?_; (case aB => exact HB.out); (case aO => exact HO_5.out); (case aL => exact LMc5.out); intro v120 w6 ho hb; rw [← Ny1.out] at ho; have n0_ := Aside0.mk (hb); have n1_ := Aside0.mk (ho); clear HB; clear HO_5; have HB := n0_; have HO121 := n1_; clear n0_ n1_; clear ho hb))
          go_roundg k1
          case measure => have := HK1.out; omega
          case rel => exact ⟨y1, _, rfl, H', ⟨by have := HK1.out; omega⟩, ⟨.inl HO121.out⟩, HB⟩
        · rw [if_neg c5] at H
          exact absurd H (by simp)
      · rw [if_neg c3] at H
        have c3b0 : decide (128 ≤ x6_1) = false := decide_eq_false c3
        clear c3
        by_cases c5 : x5_1.length < 140737488355328
        · rw [if_pos c5] at H
          have LMc5 := Aside0.mk c5
          clear c5
          obtain ⟨y1, hy1⟩ : ∃ y_ : List Int, y_ = x5_1 ++ [x6_1 % 256] := ⟨_, rfl⟩
          rw [← hy1] at H
          have Ny1 := Aside0.mk hy1
          clear hy1
          have H' := Aside0.mk H
          clear H
          go_wp2_with (first | ((with_reducible refine gate_builtin (b := .append) (xs := #[.tmp 26, .tmp 29]) rfl ?_); at_builtin; refine src_append (w0 := w) rfl (.tmp 26) (.tmp 29) 22 rfl Try.underlying22 info5 u5 x5_1 (x6_1 % 256) rfl rfl ?aO ?aB ?aL ?_; (case aB => exact HB.out); (case aO => exact HO_5.out); (case aL => exact LMc5.out); intro v120 w6 ho hb; rw [← Ny1.out] at ho; have n0_ := Aside0.mk (hb); have n1_ := Aside0.mk (ho); clear HB; clear HO_5; have HB := n0_; have HO121 := n1_; clear n0_ n1_; clear ho hb))
          obtain rfl := Option.some.inj H'.out
          go_ret
          exact ⟨_, rfl, HO121.out, HB.out⟩
        · rw [if_neg c5] at H
          exact absurd H (by simp)

/-! ### checksum_Seal: function 37 -/
def checksum_Seal.f (l0 : List Int) : Option (List Int) := (varint_Put.f ([] : List Int) (l0.length : Int)).bind fun t104 => (if t104.length + l0.length < 140737488355328 then ((some (t104 ++ l0 : List Int)).bind fun y107 => ((checksum_Sum.f y107).bind fun t110 => ((some (([(t110 / 16777216) % 256, (t110 / 65536) % 256, (t110 / 256) % 256, (t110) % 256] : List Int) : List Int)).bind fun y111 => (if y107.length + y111.length < 140737488355328 then (some (y107 ++ y111)) else (none))))) else (none))
set_option maxHeartbeats 4000000 in
set_option maxRecDepth 100000 in
theorem checksum_Seal.calls (A0 : Option Addr) (c0 : Nat) (l0 : List Int) (r : List Int) (w : World) (hr0 : Kd.C (Kd.int .u8) w A0 l0.length l0) (hc0 : l0.length ≤ c0) (h : checksum_Seal.f l0 = some r) :
  Calls Try.prog 37 #[.slice A0 l0.length c0] w fun e w' => ∃ v0_ : Value, e = .returned (v0_) ∧ Kd.R (Kd.int .u8) 5 w' w.heap.size (fun _ => True) v0_ r ∧ Below w.heap.size w w' := by
 have HR0 := Aside0.mk hr0
 have HC0 := Aside0.mk hc0
 clear hr0 hc0
 have HB := Aside0.mk (Below.refl w.heap.size w)
 have H : ((varint_Put.f ([] : List Int) (l0.length : Int)).bind fun t104 => (if t104.length + l0.length < 140737488355328 then ((some (t104 ++ l0 : List Int)).bind fun y107 => ((checksum_Sum.f y107).bind fun t110 => ((some (([(t110 / 16777216) % 256, (t110 / 65536) % 256, (t110 / 256) % 256, (t110) % 256] : List Int) : List Int)).bind fun y111 => (if y107.length + y111.length < 140737488355328 then (some (y107 ++ y111)) else (none))))) else (none))) = some r := h
 clear h
 replace H := Option.bind_eq_some_iff.mp H
 obtain ⟨t104, A20, H⟩ := H
 replace H : (if t104.length + l0.length < 140737488355328 then ((some (t104 ++ l0 : List Int)).bind fun y107 => ((checksum_Sum.f y107).bind fun t110 => ((some (([(t110 / 16777216) % 256, (t110 / 65536) % 256, (t110 / 256) % 256, (t110) % 256] : List Int) : List Int)).bind fun y111 => (if y107.length + y111.length < 140737488355328 then (some (y107 ++ y111)) else (none))))) else (none)) = some r := H
 have A2 := Aside0.mk A20
 clear A20
 by_cases c3 : t104.length + l0.length < 140737488355328
 ·rw [if_pos c3] at H
  have LMc3 := Aside0.mk c3
  clear c3
  obtain ⟨y107, hy107⟩ : ∃ y_ : List Int, y_ = (t104 ++ l0) := ⟨_, rfl⟩
  replace H : ((checksum_Sum.f y107).bind fun t110 => ((some (([(t110 / 16777216) % 256, (t110 / 65536) % 256, (t110 / 256) % 256, (t110) % 256] : List Int) : List Int)).bind fun y111 => (if y107.length + y111.length < 140737488355328 then (some (y107 ++ y111)) else (none)))) = some r := by first | (rw [hy107]; with_reducible exact H) | (have H2_ := (Option.bind_some _ _).symm.trans H; rw [hy107]; with_reducible exact H2_) | (have H2_ := (Option.bind_some _ _).symm.trans H; with_reducible exact H2_) | with_reducible exact H | (rw [hy107]; exact H) | exact H
  have Ny107 := Aside0.mk hy107
  clear hy107
  replace H := Option.bind_eq_some_iff.mp H
  obtain ⟨t110, A40, H⟩ := H
  replace H : ((some (([(t110 / 16777216) % 256, (t110 / 65536) % 256, (t110 / 256) % 256, (t110) % 256] : List Int) : List Int)).bind fun y111 => (if y107.length + y111.length < 140737488355328 then (some (y107 ++ y111)) else (none))) = some r := H
  have A4 := Aside0.mk A40
  clear A40
  obtain ⟨y111, hy111⟩ : ∃ y_ : List Int, y_ = (([(t110 / 16777216) % 256, (t110 / 65536) % 256, (t110 / 256) % 256, (t110) % 256] : List Int)) := ⟨_, rfl⟩
  replace H : (if y107.length + y111.length < 140737488355328 then (some (y107 ++ y111)) else (none)) = some r := by first | (rw [hy111]; with_reducible exact H) | (have H2_ := (Option.bind_some _ _).symm.trans H; rw [hy111]; with_reducible exact H2_) | (have H2_ := (Option.bind_some _ _).symm.trans H; with_reducible exact H2_) | with_reducible exact H | (rw [hy111]; exact H) | exact H
  have Ny111 := Aside0.mk hy111
  clear hy111
  by_cases c5 : y107.length + y111.length < 140737488355328
  ·rw [if_pos c5] at H
   have LMc5 := Aside0.mk c5
   clear c5
   obtain ⟨y114, hy114⟩ : ∃ y_ : List Int, y_ = (y107 ++ y111) := ⟨_, rfl⟩
   replace H : (some y114) = some r := by first | (rw [hy114]; with_reducible exact H) | (have H2_ := (Option.bind_some _ _).symm.trans H; rw [hy114]; with_reducible exact H2_) | (have H2_ := (Option.bind_some _ _).symm.trans H; with_reducible exact H2_) | with_reducible exact H | (rw [hy114]; exact H) | exact H
   have Ny114 := Aside0.mk hy114
   clear hy114
   obtain rfl := Option.some.inj H
   go_enter Try.func37, Try.ntmps37
   go_wp2_with (first | (go_at_call 17; refine calls_of_args (args' := #[.slice none ([] : List Int).length 0, .int .i64 (l0.length : Int)]) (by first | with_reducible rfl | (simp only [List.length_nil]; done) | (simp only [List.length_nil]; with_reducible rfl)) ?_; (with_reducible refine (varint_Put.calls _ _ ([] : List Int) (l0.length : Int) t104 _ ?side1 ?side2 A2.out).mono ?_); (case side1 => exact Kd.C_nil _ _); (case side2 => exact Nat.le_refl _); rintro e w6 ⟨v105, rfl, ho0, hb⟩; have n0_ := Aside0.mk (Kd.R_lower ho0 (below_size (by repeat (first | (with_reducible first | exact HB.out | apply below_alloc | apply pw_below_drewN | apply below_drew1) | exact HB.out)))); have n1_ := Aside0.mk (below_step (by repeat (first | (with_reducible first | exact HB.out | apply below_alloc | apply pw_below_drewN | apply below_drew1) | exact HB.out)) hb); clear HB; have HO106 := n0_; have HB := n1_; clear n0_ n1_; (try clear hb); (try clear hb2); (try clear hk); (try clear hi); (try clear ho0)) | ((with_reducible refine gate_builtin (b := .append) (xs := #[.tmp 7, .tmp 8]) rfl ?_); at_builtin; refine Kd.R_append_rows (Kd.int .u8) (w0 := w) w.heap.size rfl (.tmp 7) (.tmp 8) 22 5 (.int .u8 0) 1 rfl Try.underlying22 info5 rfl (by decide) (by omega) v105 t104 l0 _ _ _ (fun _ => True) (fun _ => False) rfl rfl ?aO ?aR (fun _ _ h => h) (fun _ h => h.elim) ?aF ?aB ?aS ?aL ?_; (case aR => repeat (first | exact (Kd.C_below HR0.out HB.out) | (with_reducible refine Kd.C_alloc ?_ _) | (with_reducible refine Kd.C_drewN ?_ _) | (with_reducible refine Kd.C_drew ?_))); (case aB => exact (by repeat (first | (with_reducible first | exact HB.out | apply below_alloc | apply pw_below_drewN | apply below_drew1) | exact HB.out))); (case aF => exact (fun _ _ => trivial)); (case aO => exact (by (with_reducible repeat (first | apply Kd.R_alloc | apply Kd.R_drewN | apply Kd.R_drew)); exact HO106.out)); (case aS => exact (below_size (by repeat (first | (with_reducible first | exact HB.out | apply below_alloc | apply pw_below_drewN | apply below_drew1) | exact HB.out)))); (case aL => have := LMc3.out; omega); intro v108 w7 ho hb hg hat; rw [← Ny107.out] at ho; have n0_ := Aside0.mk (hb); have n1_ := Aside0.mk (ho); clear HB; clear HO106; have HB := n0_; have HO109 := n1_; clear n0_ n1_; clear ho hb hg hat; obtain ⟨Ao8, co8, eo8⟩ := Kd.R_slice HO109.out; subst eo8) | ((with_reducible refine gate_callee (f := 32) rfl ?_); refine goesL_ (some 11) rfl rfl Try.func32 (by kernel_rfl) rfl #[.slice Ao8 y107.length co8] rfl (by (try simp only [List.map_toArray, List.map_cons, List.map_nil]); first | done | rfl | (simp only [List.length_drop, List.length_take]; rfl)) ?_; (with_reducible refine (checksum_Sum.calls _ _ y107 t110 _ ?side1 ?side2 A4.out).mono ?_); (case side1 => repeat (first | exact (Kd.R_reads' HO109.out).2.2 | (with_reducible refine Kd.C_alloc ?_ _) | (with_reducible refine Kd.C_drewN ?_ _) | (with_reducible refine Kd.C_drew ?_))); (case side2 => exact (Kd.R_reads' HO109.out).2.1); rintro e w9 ⟨rfl, hb⟩; refine ⟨_, rfl, ?_⟩; have n0_ := Aside0.mk (Kd.R_below (by (with_reducible repeat (first | apply Kd.R_alloc | apply Kd.R_drewN | apply Kd.R_drew)); exact HO109.out) hb); have n1_ := Aside0.mk (below_step (by repeat (first | (with_reducible first | exact HB.out | apply below_alloc | apply pw_below_drewN | apply below_drew1) | exact HB.out)) hb); clear HO109; clear HB; have HO109 := n0_; have HB := n1_; clear n0_ n1_; (try clear hb); (try clear hb2); (try clear hk); (try clear hi)) | ((with_reducible refine gate_dst (N := 24) rfl ?_); refine Kd.R_lit (Kd.int .u8) _ 5 ?hg (N := 24) ?hd (xs := ([(t110 / 16777216) % 256, (t110 / 65536) % 256, (t110 / 256) % 256, (t110) % 256] : List Int)) (inner := [.int .u8 ((t110 / 16777216) % 256), .int .u8 ((t110 / 65536) % 256), .int .u8 ((t110 / 256) % 256), .int .u8 ((t110) % 256)]) (ok := fun _ => True) (okp := fun _ => True) ?hr ?hp (fun _ hk => hk) trivial (Below.refl _ _) (Nat.le_refl _) (by simp) ?_; (case hd => rfl); (case hg => rfl); (case hr => first | (go_simp; done) | (go_simp; rfl)); (case hp => exact (Reps.one (show Kd.M (Kd.int .u8) _ _ _ ((t110 / 16777216) % 256) [.int .u8 ((t110 / 16777216) % 256)] from rfl) (Reps.one (show Kd.M (Kd.int .u8) _ _ _ ((t110 / 65536) % 256) [.int .u8 ((t110 / 65536) % 256)] from rfl) (Reps.one (show Kd.M (Kd.int .u8) _ _ _ ((t110 / 256) % 256) [.int .u8 ((t110 / 256) % 256)] from rfl) (Reps.one (show Kd.M (Kd.int .u8) _ _ _ ((t110) % 256) [.int .u8 ((t110) % 256)] from rfl) (Reps.none _ _)))))); intro v112 w10 ho11 hb hg_ hnew_; clear hg_ hnew_; (first | rw [← Ny111.out] at ho11 | (simp only [Int.reduceToNat] at ho11; rw [← Ny111.out] at ho11)); have n0_ := Aside0.mk (Kd.R_elder' (by (with_reducible repeat (first | apply Kd.R_alloc | apply Kd.R_drewN | apply Kd.R_drew)); exact HO109.out) (Kd.R_base ho11) hb); have n1_ := Aside0.mk (Kd.R_lower (Kd.R_new' ho11 (Kd.R_lt (by (with_reducible repeat (first | apply Kd.R_alloc | apply Kd.R_drewN | apply Kd.R_drew)); exact HO109.out))) (below_size (by repeat (first | (with_reducible first | exact HB.out | apply below_alloc | apply pw_below_drewN | apply below_drew1) | exact HB.out)))); have n2_ := Aside0.mk (below_step (by repeat (first | (with_reducible first | exact HB.out | apply below_alloc | apply pw_below_drewN | apply below_drew1) | exact HB.out)) hb); clear HO109; clear HB; have HO109 := n0_; have HO113 := n1_; have HB := n2_; clear n0_ n1_ n2_; clear hb ho11; obtain ⟨Ao13, co13, eo13⟩ := Kd.R_slice HO113.out; subst eo13) | ((with_reducible refine gate_builtin (b := .append) (xs := #[.tmp 12, .tmp 24]) rfl ?_); at_builtin; refine Kd.R_append_rows (Kd.int .u8) (w0 := w) w.heap.size rfl (.tmp 12) (.tmp 24) 22 5 (.int .u8 0) 1 rfl Try.underlying22 info5 rfl (by decide) (by omega) (.slice Ao8 y107.length co8) y107 y111 _ _ _ (fun k_ => some k_ ≠ (.slice Ao13 y111.length co13 : Value).ownBlock) (fun _ => False) rfl rfl ?aO ?aR (fun _ _ h => h) (fun _ h => h.elim) ?aF ?aB ?aS ?aL ?_; (case aR => repeat (first | exact (Kd.R_reads' HO113.out).2.2 | (with_reducible refine Kd.C_alloc ?_ _) | (with_reducible refine Kd.C_drewN ?_ _) | (with_reducible refine Kd.C_drew ?_))); (case aB => exact (by repeat (first | (with_reducible first | exact HB.out | apply below_alloc | apply pw_below_drewN | apply below_drew1) | exact HB.out))); (case aF => exact (fun k_ hk => Kd.fresh' (Kd.R_lt (by (with_reducible repeat (first | apply Kd.R_alloc | apply Kd.R_drewN | apply Kd.R_drew)); exact HO113.out)) k_ hk)); (case aO => exact (by (with_reducible repeat (first | apply Kd.R_alloc | apply Kd.R_drewN | apply Kd.R_drew)); exact Kd.R_mono HO109.out (fun _ hk => hk.2))); (case aS => exact (below_size (by repeat (first | (with_reducible first | exact HB.out | apply below_alloc | apply pw_below_drewN | apply below_drew1) | exact HB.out)))); (case aL => have := LMc5.out; omega); intro v115 w12 ho hb hg hat; rw [← Ny114.out] at ho; have n0_ := Aside0.mk (Kd.R_after (ok := (fun _ => True)) (by (with_reducible repeat (first | apply Kd.R_alloc | apply Kd.R_drewN | apply Kd.R_drew)); exact HO113.out) hg hat); have n1_ := Aside0.mk (hb); have n2_ := Aside0.mk (ho); clear HO113; clear HB; clear HO109; have HO113 := n0_; have HB := n1_; have HO116 := n2_; clear n0_ n1_ n2_; clear ho hb hg hat))
   go_ret
   exact ⟨_, by first | rfl | (simp [errW_none, errW_some] <;> rfl) | (simp [*, errW_none, errW_some] <;> rfl), by (with_reducible repeat (first | apply Kd.R_alloc | apply Kd.R_drewN | apply Kd.R_drew)); exact Kd.R_mono HO116.out (fun _ hk => trivial), by repeat (first | (with_reducible first | exact HB.out | apply below_alloc | apply pw_below_drewN | apply below_drew1) | exact HB.out)⟩
  ·rw [if_neg c5] at H
   exact absurd H (by simp)
 ·rw [if_neg c3] at H
  exact absurd H (by simp)

/-! ### varint_width: function 41 -/
def varint_width.l0 : Nat → List Int → Int → Int → Option (Int)
 | 0, _, _, _ => none
 | k + 1, x0, x5, x6 => if x6 < x5 then (if 0 ≤ x6 then (if x6 < (x0.length : Int) then (if (rd x0 x6) < 128 then (some (wrap64 (x6 + 1))) else (varint_width.l0 k x0 x5 (wrap64 (x6 + 1)))) else (none)) else (none)) else (some 0)
def varint_width.f (k : Nat) (l0 : List Int) : Option (Int) := varint_width.l0 k l0 (l0.length : Int) 0
theorem varint_width.mono_l : ∀ k, (∀ y0 y1 y2, LeO (varint_width.l0 k y0 y1 y2) (varint_width.l0 (k + 1) y0 y1 y2))
 | 0 => fun _ _ _ r h => by simp [varint_width.l0] at h
 | k + 1 => by
  have ih0 := varint_width.mono_l k
  ·intro y0 y1 y2
   unfold varint_width.l0
   repeat' first
   | (with_reducible exact ih0 _ _ _)
   | (with_reducible exact LeO.refl _)
   | (with_reducible exact LeO.none _)
   | (with_reducible refine LeO.ite ?_ ?_)
   | (with_reducible refine LeO.bind ?_ (fun _ => ?_))
   | exact ih0 _ _ _
   | exact LeO.none _
   | refine LeO.ite ?_ ?_
   | refine LeO.bind ?_ (fun _ => ?_)
theorem varint_width.mono : ∀ a0 k, LeO (varint_width.f k a0) (varint_width.f (k + 1) a0) := by
 intro a0 k
 have ih0 := varint_width.mono_l k
 unfold varint_width.f
 repeat' first
   | (with_reducible exact ih0 _ _ _)
   | (with_reducible exact LeO.refl _)
   | (with_reducible exact LeO.none _)
   | (with_reducible refine LeO.ite ?_ ?_)
   | (with_reducible refine LeO.bind ?_ (fun _ => ?_))
   | exact ih0 _ _ _
   | exact LeO.none _
   | refine LeO.ite ?_ ?_
   | refine LeO.bind ?_ (fun _ => ?_)
set_option maxHeartbeats 4000000 in
set_option maxRecDepth 100000 in
theorem varint_width.calls (k : Nat) (A0 : Option Addr) (c0 : Nat) (l0 : List Int) (r : Int) (w : World) (hr0 : Kd.C (Kd.int .u8) w A0 l0.length l0) (hc0 : l0.length ≤ c0) (h : varint_width.f k l0 = some r) :
  Calls Try.prog 41 #[.slice A0 l0.length c0] w fun e w' => e = .returned (.int .i64 r) ∧ Drawn0 w w' := by
 have HR0 := Aside0.mk hr0
 have HC0 := Aside0.mk hc0
 clear hr0 hc0
 have H : (varint_width.l0 k l0 (l0.length : Int) 0) = some r := h
 clear h
 have H' := Aside0.mk H
 clear H
 go_enter Try.func41, Try.ntmps41
 go_wp2
 go_loopg [6] k (fun kq v6 w' => ∃ (x6_1 : Int), v6 = .int .i64 x6_1 ∧ Aside0 (varint_width.l0 kq l0 (l0.length : Int) x6_1 = some r) ∧ Aside0 (kq ≤ k) ∧ Drawn0 w w')
 case atStart => exact ⟨(0), (by first | rfl | (simp; done) | (simp [*]; done)), H', ⟨Nat.le_refl _⟩, by repeat (first | exact Drawn0.refl _ | apply Drawn0.step)⟩
 case round =>
  clear H'
  obtain ⟨x6_1, rfl, HA, HK1, ⟨m1, rfl⟩⟩ := hrel
  cases gk with
  | zero => exact absurd HA.out (by simp [varint_width.l0])
  | succ k1 =>
   have H := HA.out
   clear HA
   simp only [varint_width.l0] at H
   by_cases c2 : x6_1 < (l0.length : Int)
   ·rw [if_pos c2] at H
    have c2b0 : decide (x6_1 < (l0.length : Int)) = true := decide_eq_true c2
    clear c2
    by_cases c3 : 0 ≤ x6_1
    ·rw [if_pos c3] at H
     have c3b0 : decide (0 ≤ x6_1) = true := decide_eq_true c3
     clear c3
     by_cases c4 : x6_1 < (l0.length : Int)
     ·rw [if_pos c4] at H
      have c4b0 : decide (x6_1 < (l0.length : Int)) = true := decide_eq_true c4
      clear c4
      by_cases c5 : (rd l0 x6_1) < 128
      ·rw [if_pos c5] at H
       have c5b0 : decide ((rd l0 x6_1) < 128) = true := decide_eq_true c5
       clear c5
       obtain rfl := Option.some.inj H
       have p117 : 0 ≤ (x6_1 : Int) := of_decide_eq_true (by first | (with_reducible assumption) | assumption)
       have q117 : x6_1 < (l0.length : Int) := of_decide_eq_true (by first | (with_reducible assumption) | assumption)
       obtain ⟨ad117, e117, hx117_0⟩ := Kd.at_int HR0.out x6_1 p117 q117
       cases e117
       replace p117 := eq_true p117
       replace q117 := eq_true q117
       go_wp2
       go_ret
       exact ⟨by first | rfl | (simp; done) | (simp [*]; done), by repeat (first | exact Drawn0.refl _ | apply Drawn0.step)⟩
      ·rw [if_neg c5] at H
       have c5b0 : decide ((rd l0 x6_1) < 128) = false := decide_eq_false c5
       clear c5
       have H' := Aside0.mk H
       clear H
       have p117 : 0 ≤ (x6_1 : Int) := of_decide_eq_true (by first | (with_reducible assumption) | assumption)
       have q117 : x6_1 < (l0.length : Int) := of_decide_eq_true (by first | (with_reducible assumption) | assumption)
       obtain ⟨ad117, e117, hx117_0⟩ := Kd.at_int HR0.out x6_1 p117 q117
       cases e117
       replace p117 := eq_true p117
       replace q117 := eq_true q117
       go_wp2
       go_roundg k1
       case measure => have := HK1.out; omega
       case rel => exact ⟨(wrap64 (x6_1 + 1)), (by first | rfl | (simp; done) | (simp [*]; done)), H', ⟨by have := HK1.out; omega⟩, by repeat (first | exact Drawn0.refl _ | apply Drawn0.step)⟩
     ·rw [if_neg c4] at H
      exact absurd H (by simp)
    ·rw [if_neg c3] at H
     exact absurd H (by simp)
   ·rw [if_neg c2] at H
    have c2b0 : decide (x6_1 < (l0.length : Int)) = false := decide_eq_false c2
    clear c2
    obtain rfl := Option.some.inj H
    go_wp2
    go_ret
    exact ⟨by first | rfl | (simp; done) | (simp [*]; done), by repeat (first | exact Drawn0.refl _ | apply Drawn0.step)⟩

end Go.Proofs.Ytihfpmociffpeaa.C
