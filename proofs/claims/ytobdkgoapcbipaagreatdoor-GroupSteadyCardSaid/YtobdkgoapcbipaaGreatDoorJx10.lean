import Derived.Test.YtobdkgoapcbipaaGreatDoorJx0
import Derived.Test.YtobdkgoapcbipaaGreatDoorJx1
import Derived.Test.YtobdkgoapcbipaaGreatDoorJx2
import Derived.Test.YtobdkgoapcbipaaGreatDoorJx6
import Derived.Test.YtobdkgoapcbipaaGreatDoorJx7
namespace Go.Proofs.YtobdkgoapcbipaaGreatDoor.J
open Go.RowKit Go.Proofs.YtobdkgoapcbipaaGreatDoorW.PrintWords Go.Proofs.YtobdkgoapcbipaaGreatDoorW.PrintLast Go.Proofs.YtobdkgoapcbipaaGreatDoorW.PrintMore
set_option maxHeartbeats 4000000
set_option maxRecDepth 100000
attribute [local go_sem] max2_int min2_int max_two min_two max_three min_three max_four min_four
set_option linter.unusedVariables false
set_option linter.unusedSimpArgs false

/-! ### group_Drop: function 26 (by hand) -/
open Go.Maps Go.Proofs.YtobdkgoapcbipaaGreatDoor.Q
/-- Has a group this name? (the function that Drop hands to DeleteFunc) -/
theorem fn54_calls {w : World} {gb : Nat} {s x : ByteArray} {A1 A2 : Option Addr} {n1 n2 c1 c2 : Nat} (hb : w.cell? ⟨gb, 0, none⟩ = some (.string s)) :
    Calls Tryz.prog 54 #[.agg #[.string x, .slice A1 n1 c1, .slice A2 n2 c2], .pointer (some ⟨gb, 0, none⟩)] w fun e w' => e = .returned (.bool (x.toList == s.toList)) ∧ Below w.heap.size w w' := by
  have HB := aK (Below.refl w.heap.size w)
  have HX := aK hb
  clear hb
  go_enter Tryz.func54, Tryz.ntmps54
  go_wp2_with (first
    | ((with_reducible refine gate_dst (N := 2) rfl ?_); refine box_event ?hg (N := 2) ?hd (cs := #[.string x, .slice A1 n1 c1, .slice A2 n2 c2]) (t := 36) ?hr ?_; (case hd => rfl); (case hg => rfl); (case hr => first | (go_simp; done) | (go_simp; rfl))
       intro g9 hg w9 hbox hb9
       have hs : w9.cell? ⟨gb, 0, none⟩ = some (.string s) := (hb9.cell (World.block_lt_of_cell? w _ HX.out)).trans HX.out
       have hf : w9.frozen? ⟨gb, 0, none⟩ = w.frozen? ⟨gb, 0, none⟩ := hb9.frozen (World.block_lt_of_cell? w _ HX.out)
       have hx : w9.cell? ⟨g9, 0, none⟩ = some (.string x) := (blk_cell hbox 0).trans rfl
       have hfx := blk_frozen hbox 0
       have n0_ := aK (below_step HB.out hb9)
       clear HB hb9 hbox hg
       have HB := n0_
       clear n0_))
  go_ret
  exact ⟨rfl, HB.out⟩
theorem group_didx.callz (k : Nat) (A0 : Option Addr) (c0 : Nat) (l0 : List S36) (a1 : ByteArray) (r : Int) (w : World) (gb : Nat) (hr0 : Kd.C k36 w A0 l0.length l0) (hc0 : l0.length ≤ c0) (hbx : w.cell? ⟨gb, 0, none⟩ = some (.string a1)) (h : group_idx.f k l0 a1 = some r) :
    Calls Tryz.prog 50 #[.slice A0 l0.length c0, .func (.func 54) #[] #[.pointer (some ⟨gb, 0, none⟩)]] w fun e w' => e = .returned (.int .i64 r) ∧ Below w.heap.size w w' := by
  have hu36 := Tryz.underlying36
  unfold group_idx.f at h
  split at h
  case isFalse => cases h
  rename_i hl
  obtain rfl := Option.some.inj h
  have HR0 := aK hr0
  have HC0 := aK hc0
  have HX := aK hbx
  have HL := aK hl.1
  clear hr0 hc0 hbx h hl
  have HB := aK (Below.refl w.heap.size w)
  go_enter Tryz.func50, Tryz.ntmps50
  go_wp2
  go_loopg [8] (l0.length + 1) (fun kq v8 w' => ∃ (i : Nat), v8 = .int .i64 (i : Int) ∧ Aside0 (i + kq = l0.length + 1) ∧ Aside0 (i ≤ l0.length) ∧ Aside0 (idxG a1 l0 0 = idxG a1 (l0.drop i) i) ∧ Aside0 (Below w.heap.size w w'))
  case atStart => exact ⟨0, rfl, ⟨by omega⟩, ⟨Nat.zero_le _⟩, ⟨rfl⟩, ⟨HB.out⟩⟩
  case round =>
    clear HB
    obtain ⟨i, rfl, HK, HI, HE, HB⟩ := hrel
    cases gk with
    | zero => have := HK.out; have := HI.out; omega
    | succ k1 =>
      by_cases c : i < l0.length
      · have hL := HL.out
        have c3 : decide ((i : Int) < (l0.length : Int)) = true := decide_eq_true (by omega)
        have c4 : decide (0 ≤ (i : Int)) = true := decide_eq_true (by omega)
        obtain ⟨ad, A1, c1, A2, c2, e, hx0, hx1, hx2, hl1, hi1, hl2, hi2⟩ := at_T36 (Kd.C_below HR0.out HB.out) (i : Int) (by omega) (by omega)
        rw [rd36_at l0 i c] at hx0 hx1 hx2
        cases e
        have hw1 : wrap64 ((i : Int) + 1) = ((i + 1 : Nat) : Int) := by unfold wrap64; omega
        have HS := aK (idxG_step a1 l0 i c)
        obtain ⟨g, hg⟩ : ∃ g, l0[i] = g := ⟨_, rfl⟩
        rw [hg] at hx0 hx1 hx2 HS
        simp only [Int.toNat_natCast] at hx0 hx1 hx2
        clear hl1 hi1 hl2 hi2 hL hg
        have HP := aK ((HB.out.cell (World.block_lt_of_cell? w _ HX.out)).trans HX.out)
        by_cases hs : g.f0 = a1
        · have hb1 : (g.f0.toList == a1.toList) = true := by rw [str_eq_, decide_eq_true hs]
          have HT := aK hs
          clear hs
          go_wp2_with (first
            | (go_at_call 54
               refine (fn54_calls HP.out).mono ?_
               rintro e w1 ⟨rfl, hb⟩
               rw [hb1]
               have n0_ := aK (below_step HB.out hb)
               clear HB hb
               have HB := n0_
               clear n0_))
          go_ret
          refine ⟨?_, HB.out⟩
          rw [HE.out, HS.out, if_pos HT.out]
          first | rfl | (simp; done) | (simp [*]; done)
        · have hb1 : (g.f0.toList == a1.toList) = false := by rw [str_eq_, decide_eq_false hs]
          have HT := aK hs
          clear hs
          go_wp2_with (first
            | (go_at_call 54
               refine (fn54_calls HP.out).mono ?_
               rintro e w1 ⟨rfl, hb⟩
               rw [hb1]
               have n0_ := aK (below_step HB.out hb)
               clear HB hb
               have HB := n0_
               clear n0_))
          go_roundg k1
          case measure => omega
          case rel => exact ⟨i + 1, by rw [hw1], ⟨by have := HK.out; omega⟩, ⟨by omega⟩, ⟨by rw [HE.out, HS.out, if_neg HT.out]⟩, ⟨HB.out⟩⟩
      · have c3 : decide ((i : Int) < (l0.length : Int)) = false := decide_eq_false (by omega)
        have HN := aK (show i = l0.length by have := HI.out; omega)
        go_wp2
        go_ret
        refine ⟨?_, HB.out⟩
        rw [HE.out, HN.out, List.drop_length]
        first | rfl | (simp [idxG]; done) | (simp [*, idxG]; done)
theorem idxG_spec (s : ByteArray) : ∀ (l : List S36) (i : Nat), (idxG s l i = -1 ∧ ∀ g ∈ l, g.f0 ≠ s) ∨ ∃ k, ∃ h : k < l.length, idxG s l i = ((i + k : Nat) : Int) ∧ l[k].f0 = s ∧ ∀ g ∈ l.take k, g.f0 ≠ s
  | [], i => .inl ⟨rfl, fun g hg => absurd hg (by simp)⟩
  | g :: l, i => by
    rw [idxG]
    by_cases c : g.f0 = s
    · rw [if_pos c]
      exact .inr ⟨0, by simp, by simp, c, fun g hg => absurd hg (by simp)⟩
    · rw [if_neg c]
      rcases idxG_spec s l (i + 1) with ⟨h1, h2⟩ | ⟨k, hk, h1, h2, h3⟩
      · exact .inl ⟨h1, fun x hx => (List.mem_cons.1 hx).elim (fun e => e ▸ c) (h2 x)⟩
      · refine .inr ⟨k + 1, by simpa using hk, by rw [h1]; congr 1; omega, by simpa using h2, fun x hx => ?_⟩
        rw [List.take_succ_cons] at hx
        exact (List.mem_cons.1 hx).elim (fun e => e ▸ c) (h3 x)
/-- What Drop keeps. -/
def keepG (s : ByteArray) (l : List S36) : List S36 := l.filter fun g => !decide (g.f0 = s)
theorem keepG_all {s : ByteArray} {l : List S36} (h : ∀ g ∈ l, g.f0 ≠ s) : keepG s l = l := List.filter_eq_self.2 (fun g hg => by simp [h g hg])
theorem keepG_snoc (s : ByteArray) (l : List S36) (j : Nat) (h : j < l.length) : keepG s (l.take (j + 1)) = if l[j].f0 = s then keepG s (l.take j) else keepG s (l.take j) ++ [l[j]] := by
  rw [List.take_succ_eq_append_getElem h, keepG, List.filter_append]
  by_cases c : l[j].f0 = s
  · rw [if_pos c]; simp [c, keepG]
  · rw [if_neg c]; simp [c, keepG]
theorem keepG_len (s : ByteArray) (l : List S36) : (keepG s l).length ≤ l.length := List.length_filter_le _ _
/-- The cells of so many zero groups. -/
def zs3 (m : Nat) : List Value := (Builtin.zeroCells #[.string (⟨#[]⟩ : ByteArray), .slice none 0 0, .slice none 0 0] m).toList
theorem zs3_eq (m : Nat) : zs3 m = (List.range (m * 3)).map fun i => (#[.string (⟨#[]⟩ : ByteArray), .slice none 0 0, .slice none 0 0] : Array Value)[i % 3]! := by
  simp [zs3, Builtin.zeroCells]
theorem zs3_len (m : Nat) : (zs3 m).length = m * 3 := by rw [zs3_eq]; simp
theorem zs3_succ (m : Nat) : zs3 (m + 1) = [.string (⟨#[]⟩ : ByteArray), .slice none 0 0, .slice none 0 0] ++ zs3 m := by
  rw [zs3_eq, zs3_eq, show (m + 1) * 3 = 3 + m * 3 by omega, List.range_add, List.map_append, List.map_map]
  congr 1
  refine List.map_congr_left fun x _ => ?_
  simp only [Function.comp]
  rw [show (3 + x) % 3 = x % 3 by omega]
theorem zs3_one (m : Nat) : ∀ v ∈ zs3 m, v.oneCell' = true := by
  induction m with
  | zero => intro v hv; rw [zs3_eq] at hv; simp at hv
  | succ m ih =>
    intro v hv
    rw [zs3_succ] at hv
    rcases List.mem_append.1 hv with hv | hv
    · simp only [List.mem_cons, List.not_mem_nil, or_false] at hv
      rcases hv with rfl | rfl | rfl <;> rfl
    · exact ih v hv
theorem setCells_app (b : Nat) : ∀ (vs ws : List Value) (o : Nat) (w : World), w.setCells b o (vs ++ ws) = (w.setCells b o vs).setCells b (o + vs.length) ws
  | [], ws, o, w => by simp [World.setCells]
  | v :: vs, ws, o, w => by
    rw [List.cons_append, World.setCells, World.setCells, setCells_app b vs ws, List.length_cons, show o + (vs.length + 1) = o + 1 + vs.length by omega]
theorem zero36 (w : World) : (zeroValue 36).run Tryz.prog w = .ok (.agg #[.string ⟨#[]⟩, .slice none 0 0, .slice none 0 0]) w := by kernel_rfl
theorem z36_FK (W : World) (ok : Nat → Prop) : Kd.FK k36 W ok z36 [.string (⟨#[]⟩ : ByteArray), .slice none 0 0, .slice none 0 0] :=
  k36_mkF W ok z36 (A1 := none) (c1 := 0) (Nat.le_refl _) (Kd.F_nil _ _ _) (A2 := none) (c2 := 0) (Nat.le_refl _) (Kd.F_nil _ _ _)
theorem N_clear {B g cap n : Nat} {ok : Nat → Prop} : ∀ (m i : Nat) (W : World) (ys : List S36), Kd.N k36 36 W B ok (.slice (some ⟨g, 0, none⟩) n cap) ys → ys.length = n → i + m = n →
    ∃ ys' : List S36, ys'.length = n ∧ ys'.take i = ys.take i ∧ Kd.N k36 36 (W.setCells g (i * 3) (zs3 m)) B ok (.slice (some ⟨g, 0, none⟩) n cap) ys' ∧ W.grownBy (W.setCells g (i * 3) (zs3 m)) (some g)
  | 0, i, W, ys, h, hl, hi => by
    rw [show zs3 0 = [] from by rw [zs3_eq]; rfl, World.setCells]
    exact ⟨ys, hl, rfl, h, grown_of_below (Below.refl _ _) _⟩
  | m + 1, i, W, ys, h, hl, hi => by
    obtain ⟨cs, hcl, hF, hcc, hfr⟩ := Kd.N_elem h z36 (i : Int) (by omega) (by omega)
    obtain ⟨A1, c1, A2, c2, rfl, _, _, _, _⟩ := k36_openF hF
    have hE := Kd.N_seg h (i : Int) (by omega) (by omega) (seg := [.string (⟨#[]⟩ : ByteArray), .slice none 0 0, .slice none 0 0]) (j := 0) (okp := fun _ => False) hcl hcc (show 3 ≤ 3 from by decide) (x' := z36) (z36_FK W _) (fun _ hk => hk.elim)
    simp only [show (k36).sz = 3 from rfl, Nat.add_zero, Int.toNat_natCast] at hE
    obtain ⟨ys', h1, h2, h3, h4⟩ := N_clear m (i + 1) _ (ys.set i z36) hE.1 (by rw [List.length_set]; exact hl) (by omega)
    rw [zs3_succ, setCells_app, List.length_cons, List.length_cons, List.length_singleton, show i * 3 + (1 + 1 + 1) = (i + 1) * 3 by omega]
    refine ⟨ys', h1, ?_, h3, World.grownBy.trans hE.2 h4⟩
    have := congrArg (List.take i) h2
    rw [List.take_take, List.take_take, Nat.min_eq_left (by omega), List.take_set_of_le (Nat.le_refl _)] at this
    exact this
theorem N_there {B g cap n : Nat} {ok : Nat → Prop} {W : World} {ys : List S36} (h : Kd.N k36 36 W B ok (.slice (some ⟨g, 0, none⟩) n cap) ys) (hl : ys.length = n) (t : Nat) (ht : t < n * 3) : (W.cell? ⟨g, t, none⟩).isSome = true ∧ W.frozen? ⟨g, t, none⟩ = false := by
  obtain ⟨cs, hcl, hF, hcc, hfr⟩ := Kd.N_elem h z36 ((t / 3 : Nat) : Int) (by omega) (by omega)
  have hr : t % 3 < cs.length := by rw [hcl]; exact Nat.mod_lt _ (by decide)
  have h1 := hcc (t % 3) _ (List.getElem?_eq_getElem hr)
  have h2 := hfr (t % 3)
  simp only [show (k36).sz = 3 from rfl, Int.toNat_natCast] at h1 h2
  rw [show t / 3 * 3 + t % 3 = t by omega] at h1 h2
  exact ⟨by rw [h1]; rfl, h2⟩
theorem run_clear3 (w : World) (g o n c : Nat) (ty : TypeId) (hn : 0 < n) (hc : ∀ j, j < n * 3 → (w.cell? ⟨g, o + j, none⟩).isSome = true) (hf : ∀ j, j < n * 3 → w.frozen? ⟨g, o + j, none⟩ = false) :
    (Builtin.clear_ #[22] ty #[.slice (some ⟨g, o, none⟩) n c]).run Tryz.prog w = .ok (.tuple #[]) (w.setCells g o (zs3 n)) := by
  have hzc : (Builtin.zeroCells (Value.agg #[.string (⟨#[]⟩ : ByteArray), .slice none 0 0, .slice none 0 0]).cells n).toList = zs3 n := rfl
  have hst := run_storeCells_cells (P := Tryz.prog) g o (zs3 n) 0 w (by rw [zs3_len]; simpa using hc) (by rw [zs3_len]; simpa using hf) (zs3_one n)
  simp only [Nat.add_zero] at hst
  obtain ⟨m, rfl⟩ : ∃ m, n = m + 1 := ⟨n - 1, by omega⟩
  simp [Builtin.clear_, run_underlying Tryz.underlying22, zero36, hzc, hst]
theorem below_cells {g : Nat} {a : World} (hg : a.heap.size ≤ g) : ∀ (vs : List Value) (o : Nat) (w : World), Below a.heap.size a w → Below a.heap.size a (w.setCells g o vs)
  | [], _, _, h => h
  | v :: vs, o, w, h => below_cells hg vs (o + 1) _ (below_set h hg)
theorem add0_ (g k : Nat) : (⟨g, 0, none⟩ : Addr).add k = ⟨g, k, none⟩ := by
  unfold Addr.add
  split <;> simp_all
theorem del_step (s : ByteArray) (xs ys : List S36) (i j : Nat) (hj : j < xs.length) (h1 : ys.length = xs.length) (h2 : ys.take i = keepG s (xs.take j)) (h3 : ys.drop j = xs.drop j) (hij : i < j) :
    (xs[j].f0 = s → ys.take i = keepG s (xs.take (j + 1)) ∧ ys.drop (j + 1) = xs.drop (j + 1)) ∧ (xs[j].f0 ≠ s → (ys.set i xs[j]).take (i + 1) = keepG s (xs.take (j + 1)) ∧ (ys.set i xs[j]).drop (j + 1) = xs.drop (j + 1)) := by
  have hd : ys.drop (j + 1) = xs.drop (j + 1) := by
    rw [← List.drop_drop, ← List.drop_drop, h3]
  refine ⟨fun c => ⟨by rw [keepG_snoc s xs j hj, if_pos c, h2], hd⟩, fun c => ⟨?_, ?_⟩⟩
  · rw [keepG_snoc s xs j hj, if_neg c, ← h2, List.take_succ_eq_append_getElem (by rw [List.length_set]; omega), List.getElem_set_self, List.take_set_of_le (Nat.le_refl _)]
  · rw [List.drop_set_of_lt (by omega), hd]
theorem del_get (xs ys : List S36) (j : Nat) (hj : j < xs.length) (h1 : ys.length = xs.length) (h3 : ys.drop j = xs.drop j) : ys[j]'(by omega) = xs[j] := by
  have := congrArg List.head? h3
  rw [List.head?_drop, List.head?_drop, List.getElem?_eq_getElem hj, List.getElem?_eq_getElem (by omega)] at this
  exact Option.some.inj this
theorem b3_ {B g : Nat} {w W : World} {a b c : Value} (h : Below B w W) (hg : B ≤ g) : Below B w (((W.setCell ⟨g, 0, none⟩ a).setCell ⟨g, 1, none⟩ b).setCell ⟨g, 2, none⟩ c) :=
  ((h.setCell (p := ⟨g, 0, none⟩) hg _).setCell (p := ⟨g, 1, none⟩) hg _).setCell (p := ⟨g, 2, none⟩) hg _
theorem k3_ {g t : Nat} {W : World} {a b c a' b' c' : Value} (h : W.heap[g]? = some (.cells #[a, b, c] t (0, 0))) : (((W.setCell ⟨g, 0, none⟩ a').setCell ⟨g, 1, none⟩ b').setCell ⟨g, 2, none⟩ c').heap[g]? = some (.cells #[a', b', c'] t (0, 0)) := by
  refine blk_put (cs := #[a', b', c]) ?_ 2 _ rfl
  refine blk_put (cs := #[a', b, c]) ?_ 1 _ rfl
  exact blk_put (cs := #[a, b, c]) h 0 _ rfl
theorem group_del.callz {w0 W : World} {v : Value} {xs : List S36} {ok : Nat → Prop} {gb : Nat} {s : ByteArray} (hl : xs.length ≤ 1000000) (hN : Kd.N k36 36 W w0.heap.size ok v xs) (hB : Below w0.heap.size w0 W) (hx : W.heap[gb]? = some (.cells #[.string s] 9 (0, 0))) :
    Calls Tryz.prog 53 #[v, .func (.func 54) #[] #[.pointer (some ⟨gb, 0, none⟩)]] W fun e w' => ∃ v', e = .returned v' ∧ Kd.N k36 36 w' w0.heap.size ok v' (keepG s xs) ∧ Below w0.heap.size w0 w' := by
  have hu36 := Tryz.underlying36
  obtain ⟨A, c, rfl⟩ := Kd.N_slice hN
  have HN := aK hN
  have HB := aK hB
  have HX := aK hx
  have HL := aK hl
  clear hN hB hx hl
  rcases idxG_spec s xs 0 with ⟨h1, h2⟩ | ⟨i0, hi0, h1, h2, h3⟩
  · have HK := aK (keepG_all h2)
    have HI := aK (show group_idx.f (xs.length + 1) xs s = some (-1) from by unfold group_idx.f; rw [if_pos ⟨HL.out, by omega⟩, h1])
    clear h1 h2
    go_enter Tryz.func53, Tryz.ntmps53
    go_wp2_with (first
      | (go_at_call 50
         refine (group_didx.callz _ A c xs s _ W gb (Kd.N_reads' HN.out).2.2 (Kd.N_reads' HN.out).2.1 ((blk_cell HX.out 0).trans rfl) HI.out).mono ?_
         rintro e w1 ⟨rfl, hb⟩
         have n0_ := aK (Kd.N_below HN.out hb)
         have n1_ := aK (below_then HB.out HB.out.size hb)
         clear HN HB HX hb
         have HN := n0_; have HB := n1_; clear n0_ n1_))
    go_ret
    exact ⟨_, rfl, by rw [HK.out]; exact HN.out, HB.out⟩
  · have hp : 0 < xs.length := by omega
    obtain ⟨g0, cap, he, hb0, hlt, hcells⟩ := Kd.N_form HN.out hp
    injection he with eA en ec
    subst eA
    subst ec
    have HI := aK (show group_idx.f (xs.length + 1) xs s = some (i0 : Int) from by unfold group_idx.f; rw [if_pos ⟨HL.out, by omega⟩, h1, Nat.zero_add])
    have HG := aK hb0
    have HP := aK (show xs.take i0 = keepG s (xs.take (i0 + 1)) from by rw [keepG_snoc s xs i0 hi0, if_pos h2, keepG_all h3])
    have HI0 := aK hi0
    have hL := HL.out
    have hq1 : ((i0 : Int) == -1) = false := beq_eq_false_iff_ne.mpr (by omega)
    have hq2 : decide ((i0 : Int) = -1) = false := decide_eq_false (by omega)
    have hw0 : wrap64 ((i0 : Int) + 1) = ((i0 + 1 : Nat) : Int) := by unfold wrap64; omega
    clear h1 h2 h3 hb0 hlt hcells hp en hi0 hL
    go_enter Tryz.func53, Tryz.ntmps53
    go_wp2_with (first
      | (go_at_call 50
         refine (group_didx.callz _ _ _ xs s _ W gb (Kd.N_reads' HN.out).2.2 (Kd.N_reads' HN.out).2.1 ((blk_cell HX.out 0).trans rfl) HI.out).mono ?_
         rintro e w1 ⟨rfl, hb⟩
         have n0_ := aK (Kd.N_below HN.out hb)
         have n1_ := aK (below_then HB.out HB.out.size hb)
         have n2_ := aK (blk_below HX.out hb)
         clear HN HB HX hb
         have HN := n0_; have HB := n1_; have HX := n2_; clear n0_ n1_ n2_))
    go_loopg [5, 6] (xs.length + 1) (fun kq v5 v6 w' => ∃ (i j : Nat) (ys : List S36), v5 = .int .i64 (i : Int) ∧ v6 = .int .i64 (j : Int) ∧ Aside0 (j + kq ≥ xs.length + 1) ∧ Aside0 (i < j ∧ j ≤ xs.length) ∧ Aside0 (ys.length = xs.length ∧ ys.take i = keepG s (xs.take j) ∧ ys.drop j = xs.drop j) ∧ Aside0 (Kd.N k36 36 w' w0.heap.size ok (.slice (some ⟨g0, 0, none⟩) xs.length c) ys) ∧ Aside0 (Below w0.heap.size w0 w') ∧ Aside0 (w'.heap[gb]? = some (.cells #[.string s] 9 (0, 0))))
    case atStart => exact ⟨i0, i0 + 1, xs, rfl, by first | rfl | rw [hw0], ⟨by omega⟩, ⟨by have := HI0.out; omega⟩, ⟨rfl, HP.out, rfl⟩, HN, HB, HX⟩
    case round =>
      clear HN HB HX HP hw0 hq1 hq2
      obtain ⟨i, j, ys, rfl, rfl, HK, HJ, HY, HN, HB, HX⟩ := hrel
      cases gk with
      | zero => have := HK.out; have := HJ.out; omega
      | succ k1 =>
        have hL := HL.out
        by_cases cj : j < xs.length
        · have c3 : decide ((j : Int) < (xs.length : Int)) = true := decide_eq_true (by omega)
          have c4 : decide (0 ≤ (j : Int)) = true := decide_eq_true (by omega)
          have hg0 := del_get xs ys j cj HY.out.1 HY.out.2.2
          have HST := aK (del_step s xs ys i j cj HY.out.1 HY.out.2.1 HY.out.2.2 HJ.out.1)
          obtain ⟨cs, hcl, hF, hcc, hfr⟩ := Kd.N_elem HN.out z36 (j : Int) (by omega) (by omega)
          rw [show ys.getD ((j : Int)).toNat z36 = xs[j] from by rw [Int.toNat_natCast, List.getD_eq_getElem?_getD, List.getElem?_eq_getElem (by have := HY.out.1; omega)]; exact hg0] at hF
          clear hg0
          generalize xs[j] = g at hF HST
          obtain ⟨A1, c1, A2, c2, rfl, u1, e1, u2, e2⟩ := k36_openF hF
          have hx0 := hcc 0 _ rfl
          have hx1 := hcc 1 _ rfl
          have hx2 := hcc 2 _ rfl
          simp only [show (k36).sz = 3 from rfl, Nat.add_zero, Int.toNat_natCast] at hx0 hx1 hx2
          have HF := aK hF
          have HW := aK (Below.refl wr.heap.size wr)
          have hwj : wrap64 ((j : Int) + 1) = ((j + 1 : Nat) : Int) := by unfold wrap64; omega
          have hwi : wrap64 ((i : Int) + 1) = ((i + 1 : Nat) : Int) := by have := HJ.out; unfold wrap64; omega
          clear hcl hF hcc hfr u1 e1 u2 e2 hL
          by_cases hs : g.f0 = s
          · have hb1 : (g.f0.toList == s.toList) = true := by rw [str_eq_, decide_eq_true hs]
            have HT := aK (HST.out.1 hs)
            clear hs HST
            go_wp2_with (first
              | ((with_reducible refine gate_dst (N := 7) rfl ?_); refine box_event ?hg (N := 7) ?hd (cs := #[.string (⟨#[]⟩ : ByteArray), .slice none 0 0, .slice none 0 0]) (t := 36) ?hr ?_; (case hd => rfl); (case hg => rfl); (case hr => first | (go_simp; done) | (go_simp; rfl))
                 intro g7 hg w9 hbox hb
                 have n0_ := aK (below_step HW.out hb); have n1_ := aK hbox; have n2_ := aK (by rw [hg]; exact HW.out.size : wr.heap.size ≤ g7)
                 have hcz0 : w9.cell? ⟨g7, 0, none⟩ = some (.string (⟨#[]⟩ : ByteArray)) := (blk_cell hbox 0).trans rfl
                 have hcz1 : w9.cell? ⟨g7, 1, none⟩ = some (.slice none 0 0) := (blk_cell hbox 1).trans rfl
                 have hcz2 : w9.cell? ⟨g7, 2, none⟩ = some (.slice none 0 0) := (blk_cell hbox 2).trans rfl
                 have hfz0 := blk_frozen hbox 0
                 have hfz1 := blk_frozen hbox 1
                 have hfz2 := blk_frozen hbox 2
                 clear HW hb hbox hg
                 have HW := n0_; have BK := n1_; have GG := n2_; clear n0_ n1_ n2_)
              | (go_at_call 54
                 refine (fn54_calls (gb := gb) (s := s) ((blk_cell (blk_below HX.out (b3_ HW.out GG.out)) 0).trans rfl)).mono ?_
                 rintro e w4 ⟨rfl, hb⟩
                 rw [hb1]
                 have n0_ := aK (below_then (b3_ HW.out GG.out) (b3_ HW.out GG.out).size hb)
                 clear HW hb
                 have HW := n0_
                 clear n0_))
            go_roundg k1
            case measure => omega
            case rel => exact ⟨i, j + 1, ys, rfl, by rw [hwj], ⟨by have := HK.out; omega⟩, ⟨by have := HJ.out; omega⟩, ⟨HY.out.1, HT.out.1, HT.out.2⟩, ⟨Kd.N_below HN.out HW.out⟩, ⟨below_then HB.out HB.out.size HW.out⟩, ⟨blk_below HX.out HW.out⟩⟩
          · have hb1 : (g.f0.toList == s.toList) = false := by rw [str_eq_, decide_eq_false hs]
            have HT := aK (HST.out.2 hs)
            have c5 : decide ((i : Int) < (xs.length : Int)) = true := decide_eq_true (by have := HJ.out; omega)
            have c6 : decide (0 ≤ (i : Int)) = true := decide_eq_true (by omega)
            have c7 : i < xs.length := by have := HJ.out; omega
            clear hs HST
            go_wp2_with (first
              | ((with_reducible refine gate_dst (N := 7) rfl ?_); refine box_event ?hg (N := 7) ?hd (cs := #[.string (⟨#[]⟩ : ByteArray), .slice none 0 0, .slice none 0 0]) (t := 36) ?hr ?_; (case hd => rfl); (case hg => rfl); (case hr => first | (go_simp; done) | (go_simp; rfl))
                 intro g7 hg w9 hbox hb
                 have n0_ := aK (below_step HW.out hb); have n1_ := aK hbox; have n2_ := aK (by rw [hg]; exact HW.out.size : wr.heap.size ≤ g7)
                 have hcz0 : w9.cell? ⟨g7, 0, none⟩ = some (.string (⟨#[]⟩ : ByteArray)) := (blk_cell hbox 0).trans rfl
                 have hcz1 : w9.cell? ⟨g7, 1, none⟩ = some (.slice none 0 0) := (blk_cell hbox 1).trans rfl
                 have hcz2 : w9.cell? ⟨g7, 2, none⟩ = some (.slice none 0 0) := (blk_cell hbox 2).trans rfl
                 have hfz0 := blk_frozen hbox 0
                 have hfz1 := blk_frozen hbox 1
                 have hfz2 := blk_frozen hbox 2
                 clear HW hb hbox hg
                 have HW := n0_; have BK := n1_; have GG := n2_; clear n0_ n1_ n2_)
              | (go_at_call 54
                 refine (fn54_calls (gb := gb) (s := s) ((blk_cell (blk_below HX.out (b3_ HW.out GG.out)) 0).trans rfl)).mono ?_
                 rintro e w4 ⟨rfl, hb⟩
                 rw [hb1]
                 have HWB := aK (below_then (b3_ HW.out GG.out) (b3_ HW.out GG.out).size hb)
                 have BK4 := blk_below (k3_ (a' := .string g.f0) (b' := .slice A1 g.f1.length c1) (c' := .slice A2 g.f2.length c2) BK.out) hb
                 have hN4 := Kd.N_below HN.out HWB.out
                 obtain ⟨cs2, hcl2, hF2, hcc2, hfr2⟩ := Kd.N_elem hN4 z36 (i : Int) (by omega) (by omega)
                 obtain ⟨B1, d1, B2, d2, rfl, _, _, _, _⟩ := k36_openF hF2
                 have hE := Kd.N_seg hN4 (i : Int) (by omega) (by omega) (seg := [.string g.f0, .slice A1 g.f1.length c1, .slice A2 g.f2.length c2]) (j := 0) hcl2 hcc2 (show 3 ≤ 3 from by decide) (x' := g) (Kd.FK_step HF.out (fun k _ hk => HWB.out.block k hk)) (fun _ hk => hk)
                 have HE := aK hE
                 have hy0 := hcc2 0 _ rfl
                 have hy1 := hcc2 1 _ rfl
                 have hy2 := hcc2 2 _ rfl
                 have hz0 := hfr2 0
                 have hz1 := hfr2 1
                 have hz2 := hfr2 2
                 simp only [show (k36).sz = 3 from rfl, Nat.add_zero, Int.toNat_natCast] at hy0 hy1 hy2 hz0 hz1 hz2
                 have hb0 := (blk_cell BK4 0).trans rfl
                 have hb1_ := (blk_cell BK4 1).trans rfl
                 have hb2_ := (blk_cell BK4 2).trans rfl
                 have HX4 := aK (blk_below HX.out HWB.out)
                 have HN4 := aK hN4
                 clear HW hb hcl2 hcc2 hfr2 hF2 hE hN4 BK4)
              | ((with_reducible refine gate_store (t := 36) (p := 33) rfl ?_); refine store_event (t := 36) (p := 33) (v := ?vo) (w1 := (((w4.setCell ⟨g0, i * 3, none⟩ (.string g.f0)).setCell ⟨g0, i * 3 + 1, none⟩ (.slice A1 g.f1.length c1)).setCell ⟨g0, i * 3 + 2, none⟩ (.slice A2 g.f2.length c2))) ?hg ?ho ?hn ?hr ?_; (case ho => rfl); (case hg => rfl); (case hn => rfl); (case hr => first | (go_simp; done) | (go_simp; rfl))
                 intro w5 hw
                 have hN5 : Kd.N k36 36 w5 w0.heap.size ok (.slice (some ⟨g0, 0, none⟩) xs.length c) (ys.set i g) := by rw [hw]; exact HE.out.1
                 have hg5 : w4.grownBy w5 (some g0) := by rw [hw]; exact HE.out.2
                 have hB5 : Below w0.heap.size w0 w5 := by rw [hw]; exact below_set (below_set (below_set (below_then HB.out HB.out.size HWB.out) HG.out) HG.out) HG.out
                 have n0_ := aK hN5; have n1_ := aK hB5; have n2_ := aK (blk_grown HX4.out hg5 (Kd.N_ne HN4.out HX4.out (by decide)))
                 clear hw hN5 hg5 hB5 HE HN4 HX4 hy0 hy1 hy2 hz0 hz1 hz2 hb0 hb1_ hb2_
                 have HN5 := n0_; have HB5 := n1_; have HX5 := n2_; clear n0_ n1_ n2_))
            go_roundg k1
            case measure => omega
            case rel => exact ⟨i + 1, j + 1, ys.set i g, by rw [hwi], by rw [hwj], ⟨by have := HK.out; omega⟩, ⟨by have := HJ.out; omega⟩, ⟨by rw [List.length_set]; exact HY.out.1, HT.out.1, HT.out.2⟩, HN5, HB5, HX5⟩
        · have c3 : decide ((j : Int) < (xs.length : Int)) = false := decide_eq_false (by omega)
          have hjn : j = xs.length := by have := HJ.out; omega
          have hin : i < xs.length := by have := HJ.out; omega
          have hcn := (Kd.N_reads' HN.out).2.1
          obtain ⟨i36, hi36, _, hsz36, _⟩ := info_parts info36
          have hcf := cut_from (P := Tryz.prog) 22 36 .i64 Tryz.underlying22 hi36 3 hsz36 (some ⟨g0, 0, none⟩) xs.length c (i : Int) (by omega) (by omega)
          have hct := cut_to (P := Tryz.prog) 22 36 .i64 Tryz.underlying22 hi36 (some ⟨g0, 0, none⟩) xs.length c (i : Int) (by omega) (by omega) hcn
          simp only [Int.toNat_natCast] at hcf hct
          have hA : (if c = i then (some ⟨g0, 0, none⟩ : Option Addr) else (some ⟨g0, 0, none⟩ : Option Addr).map (·.add (i * 3))) = some ⟨g0, i * 3, none⟩ := by rw [if_neg (by omega), Option.map_some, add0_]
          rw [hA] at hcf
          have hcl := fun ty => run_clear3 wr g0 (i * 3) (xs.length - i) (c - i) ty (by omega) (fun t ht => (N_there HN.out HY.out.1 (i * 3 + t) (by omega)).1) (fun t ht => (N_there HN.out HY.out.1 (i * 3 + t) (by omega)).2)
          obtain ⟨ys', q1, q2, q3, q4⟩ := N_clear (xs.length - i) i wr ys HN.out HY.out.1 (by omega)
          have HQ := aK (Kd.N_take (m := i) q3 (by omega))
          have HB6 := aK (below_cells HG.out (zs3 (xs.length - i)) (i * 3) wr HB.out)
          have HE := aK (show ys'.take i = keepG s xs from by rw [q2, HY.out.2.1, hjn, List.take_of_length_le (Nat.le_refl _)])
          clear q1 q2 q3 q4 hA hi36 hsz36 hL
          generalize wr.setCells g0 (i * 3) (zs3 (xs.length - i)) = w6 at hcl HQ HB6
          have HJN := aK hjn
          go_wp2
          go_ret
          exact ⟨_, rfl, by rw [← HE.out]; exact HQ.out, HB6.out⟩
theorem x3_ {gb g : Nat} {o : Obj} {W : World} {a b c : Value} (h : W.heap[gb]? = some o) (hne : gb ≠ g) : (((W.setCell ⟨g, 0, none⟩ a).setCell ⟨g, 1, none⟩ b).setCell ⟨g, 2, none⟩ c).heap[gb]? = some o :=
  (Below.heap_setCell _ _ _ _ hne).trans ((Below.heap_setCell _ _ _ _ hne).trans ((Below.heap_setCell _ _ _ _ hne).trans h))
theorem ne39_ {gb g : Nat} {W : World} {x a b c : Value} (h : W.heap[gb]? = some (.cells #[x] 9 (0, 0))) (h2 : W.heap[g]? = some (.cells #[a, b, c] 36 (0, 0))) : gb ≠ g := by
  intro e
  subst e
  have h_ := h.symm.trans h2
  simp at h_
def dropL (k : Nat) (s : ByteArray) : List S36 → Option Bool
  | [] => some false
  | g :: gs => (slices_Contains_string_string.f k g.f2 s).bind fun b => if b = true then some true else dropL k s gs
theorem dropL_mono (k : Nat) (s : ByteArray) : ∀ gs : List S36, LeO (dropL k s gs) (dropL (k + 1) s gs)
  | [] => LeO.refl _
  | g :: gs => LeO.bind (slices_Contains_string_string.mono _ _ _) (fun _ => LeO.ite (LeO.refl _) (dropL_mono k s gs))
def group_Drop.f (k : Nat) (l0 : List S36) (a1 : ByteArray) : Option (List S36 × Int) := if l0.length ≤ 1000000 then (dropL k a1 l0).bind fun b => if (findG l0 a1).isSome = true then (if b = true then some ([], 15) else some (keepG a1 l0, 0)) else some ([], 8) else none
theorem group_Drop.mono : ∀ a0 a1 k, LeO (group_Drop.f k a0 a1) (group_Drop.f (k + 1) a0 a1) := by
  intro a0 a1 k
  unfold group_Drop.f
  exact LeO.ite (LeO.bind (dropL_mono k a1 a0) (fun _ => LeO.refl _)) (LeO.refl _)
theorem group_Drop.calls (k : Nat) (af : Nat → Prop) (A0 : Option Addr) (c0 : Nat) (l0 : List S36) (a1 : ByteArray) (r1 : List S36) (r2 : Int) (w : World) (au : Kd.V k36 36 w w.heap.size (fun k_ => af k_) (.slice A0 l0.length c0) l0) (h : group_Drop.f k l0 a1 = some (r1, r2)) :
    Calls Tryz.prog 26 #[.slice A0 l0.length c0, .string a1] w fun e w' => ∃ aA : Value, e = .returned (.tuple #[aA, .int .i64 r2]) ∧ Kd.N k36 36 w' w.heap.size (fun k_ => (af k_ ∨ w.heap.size ≤ k_)) aA r1 ∧ Below w.heap.size w w' := by
  have aF := Tryz.underlying36
  unfold group_Drop.f at h
  split at h
  case isFalse => cases h
  rename_i hl
  obtain ⟨b, h1, h2⟩ := Option.bind_eq_some_iff.1 h
  have HL := aK hl
  have HD := aK h1
  have HV := aK au
  have aB := aK au
  have HB := aK (Below.refl w.heap.size w)
  have HFI := aK (find_is l0 a1 hl)
  have hfr : (findR l0 a1) = ((findR l0 a1).1, (findR l0 a1).2.1, (findR l0 a1).2.2.1, (findR l0 a1).2.2.2) := rfl
  rw [findR_ok] at hfr
  clear h h1 au hl
  by_cases hf : (findG l0 a1).isSome = true
  · rw [if_pos hf] at h2
    rw [hf] at hfr
    rw [hfr] at HFI
    have H2 := aK h2
    clear h2 hfr hf
    go_enter Tryz.func26, Tryz.ntmps26
    go_wp2_with (first
      | ((with_reducible refine gate_dst (N := 3) rfl ?_); refine box_event ?hg (N := 3) ?hd (cs := #[.string a1]) (t := 9) ?hr ?_; (case hd => rfl); (case hg => rfl); (case hr => first | (go_simp; done) | (go_simp; rfl))
         intro gb hg w9 hbox hb
         have ab := aK (below_step HB.out hb); have aa := aK hbox; have ac := aK (by rw [hg]; exact HB.out.size : w.heap.size ≤ gb); have ae := aK (Kd.V_below HV.out hb)
         have hxc : w9.cell? ⟨gb, 0, none⟩ = some (.string a1) := (blk_cell hbox 0).trans rfl
         clear HB HV hb hbox hg
         have HB := ab; have HX := aa; have HXG := ac; have HV := ae; clear ab aa ac ae)
      | (go_at_call 41
         refine (group_find.calls (l0.length + 1) (fun k_ => af k_) _ _ l0 a1 _ _ _ _ _ HV.out HFI.out).mono ?_
         rintro e w4 ⟨v1, v2, rfl, an, ao, hb⟩
         have ab := aK (below_then HB.out HB.out.size hb); have aa := aK (blk_below HX.out hb); have ae := aK (Kd.V_below HV.out hb)
         obtain ⟨B1, d1, rfl⟩ := Kd.V_slice an
         obtain ⟨B2, d2, rfl⟩ := Kd.V_slice ao
         clear HB HV HX hb hxc an ao
         have HB := ab; have HX := aa; have HV := ae; clear ab aa ae)
      | ((with_reducible refine gate_dst (N := 6) rfl ?_); refine box_event ?hg (N := 6) ?hd (cs := #[.string (⟨#[]⟩ : ByteArray), .slice none 0 0, .slice none 0 0]) (t := 36) ?hr ?_; (case hd => rfl); (case hg => rfl); (case hr => first | (go_simp; done) | (go_simp; rfl))
         intro g6 hg w5 hbox hb
         have ab := aK (below_step HB.out hb); have aa := aK hbox; have ac := aK (by rw [hg]; exact HB.out.size : w.heap.size ≤ g6); have ae := aK (Kd.V_below HV.out hb); have ag := aK (blk_below HX.out hb)
         have ah : w5.cell? ⟨g6, 0, none⟩ = some (.string (⟨#[]⟩ : ByteArray)) := (blk_cell hbox 0).trans rfl
         have ai : w5.cell? ⟨g6, 1, none⟩ = some (.slice none 0 0) := (blk_cell hbox 1).trans rfl
         have aj : w5.cell? ⟨g6, 2, none⟩ = some (.slice none 0 0) := (blk_cell hbox 2).trans rfl
         have ak := blk_frozen hbox 0
         have al := blk_frozen hbox 1
         have am := blk_frozen hbox 2
         clear HB HV HX hb hbox hg
         have HB := ab; have HNE := aK (ne39_ ag.out aa.out); have GG := ac; have HV := ae; have HX := ag; clear ab aa ac ae ag))
    go_loopg [20] (l0.length + 1) (fun kq aG w' => ∃ (i : Nat), aG = .int .i64 (i : Int) ∧ Aside0 (i + kq ≥ l0.length + 1) ∧ Aside0 (i ≤ l0.length) ∧ Aside0 (dropL k a1 (l0.drop i) = some b) ∧ Aside0 (Below w.heap.size w w') ∧ Aside0 (w'.heap[gb]? = some (.cells #[.string a1] 9 (0, 0))))
    case atStart => exact ⟨0, rfl, ⟨by omega⟩, ⟨Nat.zero_le _⟩, ⟨by rw [List.drop_zero]; exact HD.out⟩, ⟨b3_ HB.out GG.out⟩, ⟨x3_ HX.out HNE.out⟩⟩
    case round =>
      clear HB HX HD HNE GG HV
      obtain ⟨i, rfl, HK, HI, HD, HB, HX⟩ := hrel
      cases gk with
      | zero => have := HK.out; have := HI.out; omega
      | succ k1 =>
        have hL := HL.out
        by_cases ci : i < l0.length
        · have c3 : decide ((i : Int) < (l0.length : Int)) = true := decide_eq_true (by omega)
          have c4 : decide (0 ≤ (i : Int)) = true := decide_eq_true (by omega)
          have hd := HD.out
          rw [List.drop_eq_getElem_cons ci, dropL] at hd
          obtain ⟨q, av, aC⟩ := Option.bind_eq_some_iff.1 hd
          obtain ⟨ad, A1, c1, A2, c2, e, aw, ax, ay, aH, aI, ap, aq⟩ := at_T36 (Kd.V_reads' (Kd.V_below aB.out HB.out)).2.2 (i : Int) (by omega) (by omega)
          rw [rd36_nat l0 i ci] at aw ax ay ap aq
          cases e
          generalize l0[i] = g at aw ax ay ap aq av
          simp only [Int.toNat_natCast] at aw ax ay
          have aD := aK av
          have ar := aK aC
          have HC := aK aq
          have HCL := aK ap
          have HW := aK (Below.refl wr.heap.size wr)
          have hwi : wrap64 ((i : Int) + 1) = ((i + 1 : Nat) : Int) := by unfold wrap64; omega
          clear hd av aC aH aI ap aq hL HD
          cases q with
          | true =>
            have hq := ar.out
            rw [if_pos rfl] at hq
            obtain rfl := Option.some.inj hq
            have h2 := H2.out
            rw [if_pos rfl] at h2
            simp only [Option.some.injEq, Prod.mk.injEq] at h2
            obtain ⟨rfl, rfl⟩ := h2
            clear hq ar H2
            go_wp2_with (first
              | ((with_reducible refine gate_dst (N := 9) rfl ?_); refine box_event ?hg (N := 9) ?hd (cs := #[.string (⟨#[]⟩ : ByteArray), .slice none 0 0, .slice none 0 0]) (t := 36) ?hr ?_; (case hd => rfl); (case hg => rfl); (case hr => first | (go_simp; done) | (go_simp; rfl))
                 intro g9 hg w9 hbox hb
                 have ab := aK (below_step HW.out hb); have aa := aK (blk_below HX.out hb); have ac := aK (by rw [hg]; exact HW.out.size : wr.heap.size ≤ g9)
                 have hne := ne39_ aa.out hbox
                 have hne' : g9 ≠ gb := fun e => hne e.symm
                 have hxc : w9.cell? ⟨gb, 0, none⟩ = some (.string a1) := (blk_cell aa.out 0).trans rfl
                 have ah : w9.cell? ⟨g9, 0, none⟩ = some (.string (⟨#[]⟩ : ByteArray)) := (blk_cell hbox 0).trans rfl
                 have ai : w9.cell? ⟨g9, 1, none⟩ = some (.slice none 0 0) := (blk_cell hbox 1).trans rfl
                 have aj : w9.cell? ⟨g9, 2, none⟩ = some (.slice none 0 0) := (blk_cell hbox 2).trans rfl
                 have ak := blk_frozen hbox 0
                 have al := blk_frozen hbox 1
                 have am := blk_frozen hbox 2
                 have HNE := aK hne
                 clear HW HX hb hbox hg
                 have HW := ab; have HX := aa; have GG := ac; clear ab aa ac)
              | (go_at_call 52
                 refine (slices_Contains_string_string.calls k _ _ g.f2 a1 true _ (Kd.C_below HC.out (b3_ HW.out GG.out)) HCL.out aD.out).mono ?_
                 rintro e w4 ⟨rfl, ⟨nd, rfl⟩⟩
                 have aE := aK (blk_drewN (x3_ (a := .string g.f0) (b := .slice A1 g.f1.length c1) (c := .slice A2 g.f2.length c2) HX.out HNE.out) nd)
                 have az := aK (pw_below_drewN (below_then HB.out HB.out.size (b3_ (a := .string g.f0) (b := .slice A1 g.f1.length c1) (c := .slice A2 g.f2.length c2) HW.out GG.out)) nd)))
            go_ret2
            exact ⟨_, rfl, Kd.N_nil _ _ _ _ _, az.out⟩
          | false =>
            have hq := ar.out
            rw [if_neg (by decide)] at hq
            have HD := aK hq
            clear hq ar
            go_wp2_with (first
              | ((with_reducible refine gate_dst (N := 9) rfl ?_); refine box_event ?hg (N := 9) ?hd (cs := #[.string (⟨#[]⟩ : ByteArray), .slice none 0 0, .slice none 0 0]) (t := 36) ?hr ?_; (case hd => rfl); (case hg => rfl); (case hr => first | (go_simp; done) | (go_simp; rfl))
                 intro g9 hg w9 hbox hb
                 have ab := aK (below_step HW.out hb); have aa := aK (blk_below HX.out hb); have ac := aK (by rw [hg]; exact HW.out.size : wr.heap.size ≤ g9)
                 have hne := ne39_ aa.out hbox
                 have hne' : g9 ≠ gb := fun e => hne e.symm
                 have hxc : w9.cell? ⟨gb, 0, none⟩ = some (.string a1) := (blk_cell aa.out 0).trans rfl
                 have ah : w9.cell? ⟨g9, 0, none⟩ = some (.string (⟨#[]⟩ : ByteArray)) := (blk_cell hbox 0).trans rfl
                 have ai : w9.cell? ⟨g9, 1, none⟩ = some (.slice none 0 0) := (blk_cell hbox 1).trans rfl
                 have aj : w9.cell? ⟨g9, 2, none⟩ = some (.slice none 0 0) := (blk_cell hbox 2).trans rfl
                 have ak := blk_frozen hbox 0
                 have al := blk_frozen hbox 1
                 have am := blk_frozen hbox 2
                 have HNE := aK hne
                 clear HW HX hb hbox hg
                 have HW := ab; have HX := aa; have GG := ac; clear ab aa ac)
              | (go_at_call 52
                 refine (slices_Contains_string_string.calls k _ _ g.f2 a1 false _ (Kd.C_below HC.out (b3_ HW.out GG.out)) HCL.out aD.out).mono ?_
                 rintro e w4 ⟨rfl, ⟨nd, rfl⟩⟩
                 have aE := aK (blk_drewN (x3_ (a := .string g.f0) (b := .slice A1 g.f1.length c1) (c := .slice A2 g.f2.length c2) HX.out HNE.out) nd)
                 have az := aK (pw_below_drewN (below_then HB.out HB.out.size (b3_ (a := .string g.f0) (b := .slice A1 g.f1.length c1) (c := .slice A2 g.f2.length c2) HW.out GG.out)) nd)))
            go_roundg k1
            case measure => omega
            case rel => exact ⟨i + 1, by rw [hwi], ⟨by have := HK.out; omega⟩, ⟨by omega⟩, HD, az, aE⟩
        · have c3 : decide ((i : Int) < (l0.length : Int)) = false := decide_eq_false (by omega)
          have hd := HD.out
          rw [List.drop_of_length_le (by omega), dropL] at hd
          obtain rfl := Option.some.inj hd
          have h2 := H2.out
          rw [if_neg (by decide)] at h2
          simp only [Option.some.injEq, Prod.mk.injEq] at h2
          obtain ⟨rfl, rfl⟩ := h2
          have HFC := aK (show api_Group_49.f l0 = some l0 from by unfold api_Group_49.f; rw [Option.bind_some, List.length_nil, if_pos (by omega), List.nil_append])
          clear hd H2 HD hL
          go_wp2_with (first
            | (go_at_call 49
               refine (api_Group_49.calls (fun k_ => af k_) _ _ l0 l0 wr (show Kd.V k36 36 wr wr.heap.size (fun k_ => af k_) _ l0 from Kd.V_below aB.out HB.out) HFC.out).mono ?_
               rintro e w5 ⟨v5, rfl, hn, hb⟩
               have HN := aK (Kd.N_lower (Kd.N_mono (ok' := fun k_ => af k_ ∨ w.heap.size ≤ k_) hn (fun k_ h_ => h_.elim .inl (fun aJ => .inr (Nat.le_trans HB.out.size aJ)))) HB.out.size)
               have ab := aK (below_then HB.out HB.out.size hb); have aa := aK (blk_below HX.out hb)
               clear HB HX hb hn
               have HB := ab; have HX := aa; clear ab aa)
            | (go_at_call 53
               refine (group_del.callz HL.out HN.out HB.out HX.out).mono ?_
               rintro e w6 ⟨v6, rfl, hn, hb⟩
               have aL := aK hn
               have aM := aK hb
               clear hn hb))
          go_ret2
          exact ⟨_, rfl, aL.out, aM.out⟩
  · rw [if_neg hf] at h2
    simp only [Option.some.injEq, Prod.mk.injEq] at h2
    obtain ⟨rfl, rfl⟩ := h2
    rw [show (findG l0 a1).isSome = false from by simpa using hf] at hfr
    rw [hfr] at HFI
    clear hfr hf
    go_enter Tryz.func26, Tryz.ntmps26
    go_wp2_with (first
      | ((with_reducible refine gate_dst (N := 3) rfl ?_); refine box_event ?hg (N := 3) ?hd (cs := #[.string a1]) (t := 9) ?hr ?_; (case hd => rfl); (case hg => rfl); (case hr => first | (go_simp; done) | (go_simp; rfl))
         intro gb hg w9 hbox hb
         have ab := aK (below_step HB.out hb); have aa := aK hbox; have ac := aK (by rw [hg]; exact HB.out.size : w.heap.size ≤ gb); have ae := aK (Kd.V_below HV.out hb)
         have hxc : w9.cell? ⟨gb, 0, none⟩ = some (.string a1) := (blk_cell hbox 0).trans rfl
         clear HB HV hb hbox hg
         have HB := ab; have HX := aa; have HXG := ac; have HV := ae; clear ab aa ac ae)
      | (go_at_call 41
         refine (group_find.calls (l0.length + 1) (fun k_ => af k_) _ _ l0 a1 _ _ _ _ _ HV.out HFI.out).mono ?_
         rintro e w4 ⟨v1, v2, rfl, an, ao, hb⟩
         have ab := aK (below_then HB.out HB.out.size hb); have aa := aK (blk_below HX.out hb); have ae := aK (Kd.V_below HV.out hb)
         obtain ⟨B1, d1, rfl⟩ := Kd.V_slice an
         obtain ⟨B2, d2, rfl⟩ := Kd.V_slice ao
         clear HB HV HX hb hxc an ao
         have HB := ab; have HX := aa; have HV := ae; clear ab aa ae)
      | ((with_reducible refine gate_dst (N := 6) rfl ?_); refine box_event ?hg (N := 6) ?hd (cs := #[.string (⟨#[]⟩ : ByteArray), .slice none 0 0, .slice none 0 0]) (t := 36) ?hr ?_; (case hd => rfl); (case hg => rfl); (case hr => first | (go_simp; done) | (go_simp; rfl))
         intro g6 hg w5 hbox hb
         have ab := aK (below_step HB.out hb); have aa := aK hbox; have ac := aK (by rw [hg]; exact HB.out.size : w.heap.size ≤ g6); have ae := aK (Kd.V_below HV.out hb); have ag := aK (blk_below HX.out hb)
         have ah : w5.cell? ⟨g6, 0, none⟩ = some (.string (⟨#[]⟩ : ByteArray)) := (blk_cell hbox 0).trans rfl
         have ai : w5.cell? ⟨g6, 1, none⟩ = some (.slice none 0 0) := (blk_cell hbox 1).trans rfl
         have aj : w5.cell? ⟨g6, 2, none⟩ = some (.slice none 0 0) := (blk_cell hbox 2).trans rfl
         have ak := blk_frozen hbox 0
         have al := blk_frozen hbox 1
         have am := blk_frozen hbox 2
         clear HB HV HX hb hbox hg
         have HB := ab; have HNE := aK (ne39_ ag.out aa.out); have GG := ac; have HV := ae; have HX := ag; clear ab aa ac ae ag))
    go_ret2
    exact ⟨_, rfl, Kd.N_nil _ _ _ _ _, b3_ HB.out GG.out⟩

/-! ### l43_example: function 32 -/
def l43_example.f  : Option ((List (S36))) := some (([(⟨(⟨#[97]⟩ : ByteArray), (([1, 2] : List Int)), (([(⟨#[98]⟩ : ByteArray)] : List ByteArray))⟩ : S36), (⟨(⟨#[98]⟩ : ByteArray), (([2, 3] : List Int)), (([(⟨#[99]⟩ : ByteArray)] : List ByteArray))⟩ : S36), (⟨(⟨#[99]⟩ : ByteArray), (([4] : List Int)), ([] : List ByteArray)⟩ : S36)] : List (S36)))
theorem l43_example.calls  (r : List (S36)) (w : World) (h : l43_example.f  = some r) :
  Calls Tryz.prog 32 #[] w fun e w' => ∃ aR : Value,e = .returned (aR) ∧ Kd.N k36 36 w' w.heap.size (fun k_ => (w.heap.size ≤ k_)) aR r ∧ Below w.heap.size w w' := by
 have aW := Tryz.underlying36
 have HB := aK (Below.refl w.heap.size w)
 unfold l43_example.f at h
 have H := h
 clear h
 obtain ⟨ad,ah⟩ : ∃ y_ : List Int,y_ = (([1,2] : List Int)) := ⟨_,rfl⟩
 replace H : (some (([(⟨(⟨#[97]⟩ : ByteArray),ad,(([(⟨#[98]⟩ : ByteArray)] : List ByteArray))⟩ : S36),(⟨(⟨#[98]⟩ : ByteArray),(([2,3] : List Int)),(([(⟨#[99]⟩ : ByteArray)] : List ByteArray))⟩ : S36),(⟨(⟨#[99]⟩ : ByteArray),(([4] : List Int)),([] : List ByteArray)⟩ : S36)] : List (S36)))) = some r := by first|(rw [ah];with_reducible exact H)|(have ae := (Option.bind_some _ _).symm.trans H;rw [ah];with_reducible exact ae)|(have ae := (Option.bind_some _ _).symm.trans H;with_reducible exact ae)|with_reducible exact H|(rw [ah];exact H)|exact H
 have aw := aK ah
 clear ah
 obtain ⟨af,ai⟩ : ∃ y_ : List ByteArray,y_ = (([(⟨#[98]⟩ : ByteArray)] : List ByteArray)) := ⟨_,rfl⟩
 replace H : (some (([(⟨(⟨#[97]⟩ : ByteArray),ad,af⟩ : S36),(⟨(⟨#[98]⟩ : ByteArray),(([2,3] : List Int)),(([(⟨#[99]⟩ : ByteArray)] : List ByteArray))⟩ : S36),(⟨(⟨#[99]⟩ : ByteArray),(([4] : List Int)),([] : List ByteArray)⟩ : S36)] : List (S36)))) = some r := by first|(rw [ai];with_reducible exact H)|(have ae := (Option.bind_some _ _).symm.trans H;rw [ai];with_reducible exact ae)|(have ae := (Option.bind_some _ _).symm.trans H;with_reducible exact ae)|with_reducible exact H|(rw [ai];exact H)|exact H
 have ax := aK ai
 clear ai
 obtain ⟨ag,aj⟩ : ∃ y_ : List Int,y_ = (([2,3] : List Int)) := ⟨_,rfl⟩
 replace H : (some (([(⟨(⟨#[97]⟩ : ByteArray),ad,af⟩ : S36),(⟨(⟨#[98]⟩ : ByteArray),ag,(([(⟨#[99]⟩ : ByteArray)] : List ByteArray))⟩ : S36),(⟨(⟨#[99]⟩ : ByteArray),(([4] : List Int)),([] : List ByteArray)⟩ : S36)] : List (S36)))) = some r := by first|(rw [aj];with_reducible exact H)|(have ae := (Option.bind_some _ _).symm.trans H;rw [aj];with_reducible exact ae)|(have ae := (Option.bind_some _ _).symm.trans H;with_reducible exact ae)|with_reducible exact H|(rw [aj];exact H)|exact H
 have ay := aK aj
 clear aj
 obtain ⟨ak,al⟩ : ∃ y_ : List ByteArray,y_ = (([(⟨#[99]⟩ : ByteArray)] : List ByteArray)) := ⟨_,rfl⟩
 replace H : (some (([(⟨(⟨#[97]⟩ : ByteArray),ad,af⟩ : S36),(⟨(⟨#[98]⟩ : ByteArray),ag,ak⟩ : S36),(⟨(⟨#[99]⟩ : ByteArray),(([4] : List Int)),([] : List ByteArray)⟩ : S36)] : List (S36)))) = some r := by first|(rw [al];with_reducible exact H)|(have ae := (Option.bind_some _ _).symm.trans H;rw [al];with_reducible exact ae)|(have ae := (Option.bind_some _ _).symm.trans H;with_reducible exact ae)|with_reducible exact H|(rw [al];exact H)|exact H
 have az := aK al
 clear al
 obtain ⟨ap,am⟩ : ∃ y_ : List Int,y_ = (([4] : List Int)) := ⟨_,rfl⟩
 replace H : (some (([(⟨(⟨#[97]⟩ : ByteArray),ad,af⟩ : S36),(⟨(⟨#[98]⟩ : ByteArray),ag,ak⟩ : S36),(⟨(⟨#[99]⟩ : ByteArray),ap,([] : List ByteArray)⟩ : S36)] : List (S36)))) = some r := by first|(rw [am];with_reducible exact H)|(have ae := (Option.bind_some _ _).symm.trans H;rw [am];with_reducible exact ae)|(have ae := (Option.bind_some _ _).symm.trans H;with_reducible exact ae)|with_reducible exact H|(rw [am];exact H)|exact H
 have aA := aK am
 clear am
 obtain ⟨aN,an⟩ : ∃ y_ : List (S36),y_ = (([(⟨(⟨#[97]⟩ : ByteArray),ad,af⟩ : S36),(⟨(⟨#[98]⟩ : ByteArray),ag,ak⟩ : S36),(⟨(⟨#[99]⟩ : ByteArray),ap,([] : List ByteArray)⟩ : S36)] : List (S36))) := ⟨_,rfl⟩
 replace H : (some aN) = some r := by first|(rw [an];with_reducible exact H)|(have ae := (Option.bind_some _ _).symm.trans H;rw [an];with_reducible exact ae)|(have ae := (Option.bind_some _ _).symm.trans H;with_reducible exact ae)|with_reducible exact H|(rw [an];exact H)|exact H
 have aB := aK an
 clear an
 obtain rfl := Option.some.inj H
 go_enter Tryz.func32,Tryz.ntmps32
 go_wp2_with (first|((with_reducible refine gate_dst (N := 1) rfl ?_);refine Kd.R_lit (Kd.int .i64) _ 3 ?hg (N := 1) ?hd (xs := ([1,2] : List Int)) (inner := [.int .i64 1,.int .i64 2]) (ok := fun _ => True) (okp := fun _ => True) ?hr ?hp (fun _ hk => hk) trivial (Below.refl _ _) (Nat.le_refl _) (by simp) ?_;(case hd => rfl);(case hg => rfl);(case hr => first|(go_simp;done)|(go_simp;rfl));(case hp => exact (Reps.one (show Kd.M (Kd.int .i64) _ _ _ 1 [.int .i64 1] from rfl) (Reps.one (show Kd.M (Kd.int .i64) _ _ _ 2 [.int .i64 2] from rfl) (Reps.none _ _))));intro aX w1 aD hb hg_ hnew_;clear hg_ hnew_;(first|rw [← aw.out] at aD|(simp only [Int.reduceToNat] at aD;rw [← aw.out] at aD));have aa := aK (Kd.R_lower (Kd.R_newM (M := fun k_ => (w.heap.size ≤ k_)) aD (below_size (bM HB.out)) (fun k_ h_ => h_)) (below_size (bM HB.out)));replace HB := aK (below_step (bM HB.out) hb);clear hb aD)|((with_reducible refine gate_dst (N := 2) rfl ?_);refine Kd.R_lit Kd.string _ 9 ?hg (N := 2) ?hd (xs := ([(⟨#[98]⟩ : ByteArray)] : List ByteArray)) (inner := [.string (⟨#[98]⟩ : ByteArray)]) (ok := fun _ => True) (okp := fun _ => True) ?hr ?hp (fun _ hk => hk) trivial (Below.refl _ _) (Nat.le_refl _) (by simp) ?_;(case hd => rfl);(case hg => rfl);(case hr => first|(go_simp;done)|(go_simp;rfl));(case hp => exact (Reps.one (show Kd.M Kd.string _ _ _ (⟨#[98]⟩ : ByteArray) [.string (⟨#[98]⟩ : ByteArray)] from rfl) (Reps.none _ _)));intro aY w3 aE hb hg_ hnew_;clear hg_ hnew_;(first|rw [← ax.out] at aE|(simp only [Int.reduceToNat] at aE;rw [← ax.out] at aE));replace aa := aK (Kd.R_below (rM aa.out) hb);have ab := aK (Kd.R_lower (Kd.R_newM (M := fun k_ => (w.heap.size ≤ k_)) aE (below_size (bM HB.out)) (fun k_ h_ => h_)) (below_size (bM HB.out)));replace HB := aK (below_step (bM HB.out) hb);clear hb aE;obtain ⟨aS,aT,aZ⟩ := Kd.R_slice ab.out;subst aZ;obtain ⟨aU,aV,a0⟩ := Kd.R_slice aa.out;subst a0)|((with_reducible refine gate_dst (N := 4) rfl ?_);refine Kd.R_lit (Kd.int .i64) _ 3 ?hg (N := 4) ?hd (xs := ([2,3] : List Int)) (inner := [.int .i64 2,.int .i64 3]) (ok := fun _ => True) (okp := fun _ => True) ?hr ?hp (fun _ hk => hk) trivial (Below.refl _ _) (Nat.le_refl _) (by simp) ?_;(case hd => rfl);(case hg => rfl);(case hr => first|(go_simp;done)|(go_simp;rfl));(case hp => exact (Reps.one (show Kd.M (Kd.int .i64) _ _ _ 2 [.int .i64 2] from rfl) (Reps.one (show Kd.M (Kd.int .i64) _ _ _ 3 [.int .i64 3] from rfl) (Reps.none _ _))));intro a1 w7 aC hb hg_ hnew_;clear hg_ hnew_;(first|rw [← ay.out] at aC|(simp only [Int.reduceToNat] at aC;rw [← ay.out] at aC));replace ab := aK (Kd.R_below (rM ab.out) hb);have ac := aK (Kd.R_lower (Kd.R_new' (Kd.R_newM (M := fun k_ => (w.heap.size ≤ k_)) aC (below_size (bM HB.out)) (fun k_ h_ => h_)) (Kd.R_lt (rM aa.out))) (below_size (bM HB.out)));replace aa := aK (Kd.R_elder' (rM aa.out) (Kd.R_base aC) hb);replace HB := aK (below_step (bM HB.out) hb);clear hb aC)|((with_reducible refine gate_dst (N := 5) rfl ?_);refine Kd.R_lit Kd.string _ 9 ?hg (N := 5) ?hd (xs := ([(⟨#[99]⟩ : ByteArray)] : List ByteArray)) (inner := [.string (⟨#[99]⟩ : ByteArray)]) (ok := fun _ => True) (okp := fun _ => True) ?hr ?hp (fun _ hk => hk) trivial (Below.refl _ _) (Nat.le_refl _) (by simp) ?_;(case hd => rfl);(case hg => rfl);(case hr => first|(go_simp;done)|(go_simp;rfl));(case hp => exact (Reps.one (show Kd.M Kd.string _ _ _ (⟨#[99]⟩ : ByteArray) [.string (⟨#[99]⟩ : ByteArray)] from rfl) (Reps.none _ _)));intro a2 w9 ar hb hg_ hnew_;clear hg_ hnew_;(first|rw [← az.out] at ar|(simp only [Int.reduceToNat] at ar;rw [← az.out] at ar));replace aa := aK (Kd.R_below (rM aa.out) hb);replace ac := aK (Kd.R_below (rM ac.out) hb);have ao := aK (Kd.R_lower (Kd.R_new' (Kd.R_newM (M := fun k_ => (w.heap.size ≤ k_)) ar (below_size (bM HB.out)) (fun k_ h_ => h_)) (Kd.R_lt (rM ab.out))) (below_size (bM HB.out)));replace ab := aK (Kd.R_elder' (rM ab.out) (Kd.R_base ar) hb);replace HB := aK (below_step (bM HB.out) hb);clear hb ar;obtain ⟨aF,aG,aO⟩ := Kd.R_slice ao.out;subst aO;obtain ⟨aH,aI,aP⟩ := Kd.R_slice ac.out;subst aP)|((with_reducible refine gate_dst (N := 7) rfl ?_);refine Kd.R_lit (Kd.int .i64) _ 3 ?hg (N := 7) ?hd (xs := ([4] : List Int)) (inner := [.int .i64 4]) (ok := fun _ => True) (okp := fun _ => True) ?hr ?hp (fun _ hk => hk) trivial (Below.refl _ _) (Nat.le_refl _) (by simp) ?_;(case hd => rfl);(case hg => rfl);(case hr => first|(go_simp;done)|(go_simp;rfl));(case hp => exact (Reps.one (show Kd.M (Kd.int .i64) _ _ _ 4 [.int .i64 4] from rfl) (Reps.none _ _)));intro a3 a4 aq hb hg_ hnew_;clear hg_ hnew_;(first|rw [← aA.out] at aq|(simp only [Int.reduceToNat] at aq;rw [← aA.out] at aq));replace ab := aK (Kd.R_below (rM ab.out) hb);replace ao := aK (Kd.R_below (rM ao.out) hb);have au := aK (Kd.R_lower (Kd.R_new' (Kd.R_new' (Kd.R_newM (M := fun k_ => (w.heap.size ≤ k_)) aq (below_size (bM HB.out)) (fun k_ h_ => h_)) (Kd.R_lt (rM aa.out))) (Kd.R_lt (rM ac.out))) (below_size (bM HB.out)));replace aa := aK (Kd.R_elder' (rM aa.out) (Kd.R_base aq) hb);replace ac := aK (Kd.R_elder' (rM ac.out) (Kd.R_base aq) hb);replace HB := aK (below_step (bM HB.out) hb);clear hb aq;obtain ⟨aJ,aL,aQ⟩ := Kd.R_slice au.out;subst aQ)|((with_reducible refine gate_dst (N := 9) rfl ?_);refine Kd.N_lit k36 _ 36 ?hg (N' := 9) ?hd (xs := ([(⟨(⟨#[97]⟩ : ByteArray),ad,af⟩ : S36),(⟨(⟨#[98]⟩ : ByteArray),ag,ak⟩ : S36),(⟨(⟨#[99]⟩ : ByteArray),ap,([] : List ByteArray)⟩ : S36)] : List (S36))) (inner := [.string (⟨#[97]⟩ : ByteArray),.slice aU ad.length aV,.slice aS af.length aT,.string (⟨#[98]⟩ : ByteArray),.slice aH ag.length aI,.slice aF ak.length aG,.string (⟨#[99]⟩ : ByteArray),.slice aJ ap.length aL,.slice none 0 0]) (ok := (fun k_ => (w.heap.size ≤ k_))) (okp := (fun k_ => (w.heap.size ≤ k_))) ?hr ?hp (fun _ hk => hk) ((show ∀ k_,a4.heap.size ≤ k_ → (fun k_ => (w.heap.size ≤ k_)) k_ from fun k_ hk => (Nat.le_trans (below_size (bM HB.out)) hk)) _ (Nat.le_refl _)) (Below.refl _ _) (Nat.le_refl _) (by simp) ?_;(case hd => rfl);(case hg => rfl);(case hr => first|(go_simp;done)|(go_simp;rfl));(case hp => exact (Reps.c3 (show Kd.FK k36 _ _ (⟨(⟨#[97]⟩ : ByteArray),ad,af⟩ : S36) [.string (⟨#[97]⟩ : ByteArray),.slice aU ad.length aV,.slice aS af.length aT] from (k36_mkF _ _ (⟨(⟨#[97]⟩ : ByteArray),ad,af⟩ : S36) (Kd.R_reads' (Kd.R_mono (ok' := (fun k_ => (w.heap.size ≤ k_))) (aa.out) (fun k_ hk => hk.1.1.1))).2.1 (Kd.R_F (Kd.R_mono (ok' := (fun k_ => (w.heap.size ≤ k_))) (aa.out) (fun k_ hk => hk.1.1.1))) (Kd.R_reads' (Kd.R_mono (ok' := (fun k_ => (w.heap.size ≤ k_))) (ab.out) (fun k_ hk => hk.1.1))).2.1 (Kd.R_F (Kd.R_mono (ok' := (fun k_ => (w.heap.size ≤ k_))) (ab.out) (fun k_ hk => hk.1.1))))) (Reps.c3 (show Kd.FK k36 _ _ (⟨(⟨#[98]⟩ : ByteArray),ag,ak⟩ : S36) [.string (⟨#[98]⟩ : ByteArray),.slice aH ag.length aI,.slice aF ak.length aG] from (k36_mkF _ _ (⟨(⟨#[98]⟩ : ByteArray),ag,ak⟩ : S36) (Kd.R_reads' (Kd.R_mono (ok' := (fun k_ => (w.heap.size ≤ k_))) (ac.out) (fun k_ hk => hk.1.1.1))).2.1 (Kd.R_F (Kd.R_mono (ok' := (fun k_ => (w.heap.size ≤ k_))) (ac.out) (fun k_ hk => hk.1.1.1))) (Kd.R_reads' (Kd.R_mono (ok' := (fun k_ => (w.heap.size ≤ k_))) (ao.out) (fun k_ hk => hk.1.1))).2.1 (Kd.R_F (Kd.R_mono (ok' := (fun k_ => (w.heap.size ≤ k_))) (ao.out) (fun k_ hk => hk.1.1))))) (Reps.c3 (show Kd.FK k36 _ _ (⟨(⟨#[99]⟩ : ByteArray),ap,([] : List ByteArray)⟩ : S36) [.string (⟨#[99]⟩ : ByteArray),.slice aJ ap.length aL,.slice none 0 0] from (k36_mkF _ _ (⟨(⟨#[99]⟩ : ByteArray),ap,([] : List ByteArray)⟩ : S36) (Kd.R_reads' (Kd.R_mono (ok' := (fun k_ => (w.heap.size ≤ k_))) (au.out) (fun k_ hk => hk.1.1.1))).2.1 (Kd.R_F (Kd.R_mono (ok' := (fun k_ => (w.heap.size ≤ k_))) (au.out) (fun k_ hk => hk.1.1.1))) (Nat.le_refl _) (Kd.F_nil _ _ _))) (Reps.none _ _)))));intro a5 a6 av hb hg_ hnew_;clear hg_ hnew_;(first|rw [← aB.out] at av|(simp only [Int.reduceToNat] at av;rw [← aB.out] at av));have aM := aK (Kd.N_lower av (below_size (bM HB.out)));replace HB := aK (below_step (bM HB.out) hb);clear hb av))
 go_ret
 exact ⟨_,by first|rfl|(simp [errW_none,errW_some] <;> rfl)|(simp [*,errW_none,errW_some] <;> rfl),nM aM.out,bM HB.out⟩
end Go.Proofs.YtobdkgoapcbipaaGreatDoor.J
