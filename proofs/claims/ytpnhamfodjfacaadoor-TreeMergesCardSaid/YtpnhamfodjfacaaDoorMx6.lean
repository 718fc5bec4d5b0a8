-- Written by hp.py, a program of this session, over the kit's print of the translation. Not trusted: Lean checks it.
import Derived.Test.YtpnhamfodjfacaaDoorMx0
import Derived.Test.YtpnhamfodjfacaaDoorMx3
namespace Go.Proofs.YtpnhamfodjfacaaDoor.M
open Go.RowKit Go.Proofs.YtpnhamfodjfacaaDoorW.PrintWords Go.Proofs.YtpnhamfodjfacaaDoorW.PrintLast Go.Proofs.YtpnhamfodjfacaaDoorW.PrintMore
attribute [local go_sem] max2_int min2_int max_two min_two max_three min_three max_four min_four   -- for this text's walks alone
set_option linter.unusedVariables false
set_option linter.unusedSimpArgs false

/-! ### tree_contents: function 36 (by hand) -/
open Go.Maps
/-! ### A map from strings to numbers, as a list of its entries -/
abbrev MP := List (ByteArray × Int)
def mget : MP → ByteArray → Option Int
  | [], _ => none
  | p :: m, s => if p.1 = s then some p.2 else mget m s
def mput (m : MP) (s : ByteArray) (v : Int) : MP := (s, v) :: m
def mdel (m : MP) (s : ByteArray) : MP := m.filter fun p => decide (p.1 ≠ s)
theorem mget_put (m : MP) (s t : ByteArray) (v : Int) : mget (mput m s v) t = if s = t then some v else mget m t := rfl
theorem mget_del (m : MP) (s t : ByteArray) : mget (mdel m s) t = if s = t then none else mget m t := by
  induction m with
  | nil => simp [mdel, mget]
  | cons p m ih =>
    by_cases h : p.1 = s
    · rw [show mdel (p :: m) s = mdel m s from List.filter_cons_of_neg (by simpa using h), ih, mget]
      by_cases h2 : s = t
      · rw [if_pos h2, if_pos h2]
      · rw [if_neg h2, if_neg h2, if_neg (by rw [h]; exact h2)]
    · rw [show mdel (p :: m) s = p :: mdel m s from List.filter_cons_of_pos (by simpa using h), mget, ih, mget]
      by_cases h2 : s = t
      · rw [if_pos h2, if_neg (by rw [← h2]; exact h), if_pos h2]
      · rw [if_neg h2]; simp [h2]
def kS (s : ByteArray) : Lit := .string s.data.toList
theorem kS_inj {s t : ByteArray} (h : kS s = kS t) : s = t := by
  injection h with h
  cases s; cases t
  congr 1
  exact Array.toList_inj.1 h
theorem kS_key (s : ByteArray) : WideAt.IsKeyLit (kS s) := trivial
def i0 : DataW Unit := .lit (.int .i64 0)
def Rep (D : DataW Unit) (m : MP) : Prop := ∀ s : ByteArray, Maps.has D (kS s) = (mget m s).isSome ∧ D.atKey (kS s) i0 = .lit (.int .i64 ((mget m s).getD 0))
theorem Rep.empty : Rep (.map []) [] := fun _ => ⟨rfl, rfl⟩
theorem Rep.put {D : DataW Unit} {m : MP} (h : Rep D m) (hD : IsMap D) (s : ByteArray) (v : Int) : Rep (D.put (kS s) (.lit (.int .i64 v))) (mput m s v) := by
  intro t
  rw [mget_put]
  by_cases hst : s = t
  · subst hst
    rw [if_pos rfl]
    exact ⟨has_put_same hD (kS_key s) _, atKey_put_same hD (kS_key s) _ _⟩
  · rw [if_neg hst]
    have hne : kS t ≠ kS s := fun e => hst (kS_inj e).symm
    exact ⟨(has_put_other hne _).trans (h t).1, (atKey_put_other hne _ _).trans (h t).2⟩
theorem Rep.del {D : DataW Unit} {m : MP} (h : Rep D m) (s : ByteArray) : Rep (D.del (kS s)) (mdel m s) := by
  intro t
  rw [mget_del]
  by_cases hst : s = t
  · subst hst
    rw [if_pos rfl]
    exact ⟨has_del_same, atKey_del_same _⟩
  · rw [if_neg hst]
    have hne : kS t ≠ kS s := fun e => hst (kS_inj e).symm
    exact ⟨(has_del_other hne).trans (h t).1, (atKey_del_other hne _).trans (h t).2⟩
/-- Block b is the map m, of at most n entries. -/
def SM (P : Program) (ks es : TypeId) (w : World) (b n : Nat) (m : MP) : Prop := ∃ D : DataW Unit, w.ownsMap P ks (plainElem P es) b n D ∧ Rep D m
section
variable {P : Program} {ks es : TypeId} {w w1 : World} {b n : Nat} {m : MP}
theorem SM.lt (h : SM P ks es w b n m) : b < w.heap.size := let ⟨_, h1, _⟩ := h; h1.lt
theorem SM.below (h : SM P ks es w b n m) (hb : Below w.heap.size w w1) : SM P ks es w1 b n m := by
  obtain ⟨D, h1, h2⟩ := h
  exact ⟨D, h1.kept (grown_of_below hb none) (by simp), h2⟩
theorem SM.grown (h : SM P ks es w b n m) {row : Option Nat} (hg : w.grownBy w1 row) (hne : some b ≠ row) : SM P ks es w1 b n m := by
  obtain ⟨D, h1, h2⟩ := h
  exact ⟨D, h1.kept hg hne, h2⟩
theorem SM.far (h : SM P ks es w b n m) {a : Addr} (ha : b ≠ a.block) (u : Value) : SM P ks es (w.setCell a u) b n m := by
  obtain ⟨D, h1, h2⟩ := h
  exact ⟨D, h1.setCell ha u, h2⟩
theorem SM.made (w : World) : SM P ks es (w.alloc (.map #[] 0)) w.heap.size 0 [] := ⟨_, World.ownsMap_made w P ks _, Rep.empty⟩
theorem SM.mono (h : SM P ks es w b n m) {n' : Nat} (hn : n ≤ n') : SM P ks es w b n' m := let ⟨D, h1, h2⟩ := h; ⟨D, h1.mono hn, h2⟩
end
theorem law9 : Keyed Tryd.prog 9 := string_keyed Tryd.underlying9
theorem zero3 (w : World) : (zeroValue 3).run Tryd.prog w = .ok (.int .i64 0) w := Tryd.zeroValue3 w
/-- Paths and numbers that a map takes. -/
def okS (s : ByteArray) : Bool := decide (s.size ≤ 140737488351232)
def okI (x : Int) : Bool := decide (-9223372036854775808 ≤ x) && decide (x ≤ 9223372036854775807)
theorem key_ok {s : ByteArray} (h : okS s = true) : keyOf Tryd.prog 9 (.string s) = some (kS s) := Go.WideMaps.keyOf_string_mk Tryd.underlying9 (by have := of_decide_eq_true h; unfold maxLen; omega)
theorem val_ok {x : Int} (h : okI x = true) : plainElem (H := Unit) Tryd.prog 3 (.int .i64 x) = some (.lit (.int .i64 x), []) := plainElem_int Tryd.underlying3 (by
  simp only [okI, Bool.and_eq_true, decide_eq_true_eq] at h
  simpa [Lit.wf, IntKind.min, IntKind.max, IntKind.signed, IntKind.bits] using h)
theorem w_inc_ (i : Nat) (h : i ≤ 1000000000000) : wrap64 ((i : Int) + 1) = ((i + 1 : Nat) : Int) := by unfold wrap64; omega
def okFs (l : List S45) : Bool := l.all fun x => okS x.f0 && okI x.f1
def contsM (l : List S45) : MP := l.foldl (fun m x => mput m x.f0 x.f1) []
theorem contsM_snoc (l : List S45) (i : Nat) (h : i < l.length) : contsM (l.take (i + 1)) = mput (contsM (l.take i)) l[i].f0 l[i].f1 := by
  rw [List.take_succ_eq_append_getElem h, contsM, List.foldl_append]; rfl
theorem rd45_nat (l : List S45) (i : Nat) (h : i < l.length) : rd_T45 l (i : Int) = l[i] := by
  simp [rd_T45, List.getD_eq_getElem?_getD, List.getElem?_eq_getElem h]
set_option maxHeartbeats 4000000 in
set_option maxRecDepth 100000 in
theorem tree_contents.calls_ (A0 : Option Addr) (c0 : Nat) (l0 : List S45) (w : World) (hr0 : Kd.C k45 w A0 l0.length l0) (hc0 : l0.length ≤ c0) (hok : okFs l0 = true) (hlen : l0.length ≤ 1000000) :
    Calls Tryd.prog 36 #[.slice A0 l0.length c0] w fun e w' => ∃ b, e = .returned (.map (some b)) ∧ w.heap.size ≤ b ∧ SM Tryd.prog 9 3 w' b l0.length (contsM l0) ∧ Below w.heap.size w w' := by
  have hu45 := Tryd.underlying45
  have HR0 := Aside0.mk hr0
  have HOK := Aside0.mk (And.intro hok hlen)
  clear hr0 hc0 hok hlen
  have hmm := @run_makeMap Tryd.prog
  go_enter Tryd.func36, Tryd.ntmps36
  go_wp2
  go_loopg [9] l0.length (fun kq v9 w' => ∃ (i : Nat), v9 = .int .i64 (i : Int) ∧ Aside0 (i ≤ l0.length ∧ l0.length - i ≤ kq) ∧ Aside0 (SM Tryd.prog 9 3 w' w.heap.size i (contsM (l0.take i))) ∧ Aside0 (Below w.heap.size w w'))
  case atStart => exact ⟨0, rfl, ⟨Nat.zero_le _, by omega⟩, ⟨SM.made w⟩, ⟨(Below.refl _ _).alloc (Nat.le_refl _) _⟩⟩
  case round =>
    obtain ⟨i, rfl, HK, HM, HB⟩ := hrel
    by_cases hlt : i < l0.length
    · cases gk with
      | zero => exfalso; have := HK.out; omega
      | succ k1 =>
        have c1 : decide ((i : Int) < (l0.length : Int)) = true := decide_eq_true (by omega)
        obtain ⟨ad, e, hx0, hx1⟩ := at_T45 HR0.out (i : Int) (by omega) (by omega)
        subst e
        rw [rd45_nat l0 i hlt, Int.toNat_natCast] at hx0 hx1
        replace hx0 := (HB.out.cell (World.block_lt_of_cell? w _ hx0)).trans hx0
        replace hx1 := (HB.out.cell (World.block_lt_of_cell? w _ hx1)).trans hx1
        have p : (0 ≤ (i : Int)) = True := eq_true (by omega)
        have q : ((i : Int) < (l0.length : Int)) = True := eq_true (by omega)
        generalize hA : l0[i].f0 = s at hx0 hx1
        generalize hB : l0[i].f1 = x at hx0 hx1
        have HSX := Aside0.mk (show okS s = true ∧ okI x = true from by
          have h1 := List.all_eq_true.1 HOK.out.1 l0[i] (List.getElem_mem _)
          rw [hA, hB, Bool.and_eq_true] at h1
          exact h1)
        have HE := Aside0.mk (And.intro hA hB)
        clear hA hB
        go_wp2_with (first
          | ((with_reducible refine gate_dst (N := 5) rfl ?_); refine box_event ?hg (N := 5) ?hd (cs := #[.string (⟨#[]⟩ : ByteArray), .int .i64 0]) (t := 45) ?hr ?_; (case hd => rfl); (case hg => rfl); (case hr => first | (go_simp; done) | (go_simp; rfl)); intro gb hg w9 hbox hb
             have n0_ := Aside0.mk (HM.out.below hb); have n1_ := Aside0.mk (below_step HB.out hb); have n2_ := Aside0.mk hbox; have n3_ := Aside0.mk (by rw [hg]; exact HM.out.lt : w.heap.size < gb)
             have hcz0 : w9.cell? ⟨gb, 0, none⟩ = some (.string (⟨#[]⟩ : ByteArray)) := (blk_cell hbox 0).trans rfl
             have hcz1 : w9.cell? ⟨gb, 1, none⟩ = some (.int .i64 0) := (blk_cell hbox 1).trans rfl
             have hfz0 := blk_frozen hbox 0
             have hfz1 := blk_frozen hbox 1
             clear HM HB hb hbox hg
             have HM := n0_; have HB := n1_; have BK := n2_; have GG := n3_; clear n0_ n1_ n2_ n3_)
          | (at_mapUpdate
             obtain ⟨D, hD, hRp⟩ := (HM.out.far (a := ⟨gb, 0, none⟩) (Nat.ne_of_lt GG.out) (.string s)).far (a := ⟨gb, 1, none⟩) (Nat.ne_of_lt GG.out) (.int .i64 x)
             refine wpList_mapUpdate_own _ rfl _ _ _ 51 rfl 9 3 law9 Tryd.underlying51 _ w.heap.size i D rfl hD (by have := HK.out; have := HOK.out.2; unfold maxLen; omega) _ _ _ rfl rfl (key_ok HSX.out.1) _ [] (val_ok HSX.out.2) ?_
             intro w2 hown2 hgrow2
             have n0_ := Aside0.mk (show SM Tryd.prog 9 3 w2 w.heap.size (i + 1) (mput (contsM (l0.take i)) s x) from ⟨_, hown2, hRp.put hD.isMap s x⟩)
             have n1_ := Aside0.mk (((HB.out.setCell (p := ⟨gb, 0, none⟩) (Nat.le_of_lt GG.out) (.string s)).setCell (p := ⟨gb, 1, none⟩) (Nat.le_of_lt GG.out) (.int .i64 x)).grown hgrow2 (by have := HB.out.size; simpa [World.setCell] using this) (fun k hk => by cases hk; exact Nat.le_refl _))
             clear HM HB hD hRp hown2 hgrow2
             have HM := n0_; have HB := n1_; clear n0_ n1_))
        go_roundg k1
        case measure => omega
        case rel =>
          refine ⟨i + 1, by rw [w_inc_ i (by have := HOK.out.2; omega)], ⟨by omega, by have := HK.out; omega⟩, ⟨?_⟩, HB⟩
          have h1 := HM.out
          rw [← HE.out.1, ← HE.out.2, ← contsM_snoc l0 i hlt] at h1
          exact h1
    · have hi : i = l0.length := by have := HK.out; omega
      have c1 : decide ((i : Int) < (l0.length : Int)) = false := decide_eq_false (by omega)
      have h1 := HM.out
      rw [hi, List.take_length] at h1
      have HM2 := Aside0.mk h1
      clear h1 HM
      go_wp2
      go_ret
      exact ⟨_, rfl, Nat.le_refl _, HM2.out, HB.out⟩

/-! ### slices_Sort_string_string: function 47 (by hand) -/
open Go.Sort Go.Shelf
theorem below_sortedS {B : Nat} {w0 w : World} {g n : Nat} {d : Array (List UInt8)} {os : Array Obj} (h : Below B w0 w) (hg : B ≤ g) (hB : B ≤ w.heap.size) : Below B w0 (grow (putRow encStr (Sort.ahead w n) g 0 d) os) :=
  (Lib.below_putRow (enc := encStr) (q := n) (d := d) h hg).trans (Lib.below_grow B _ (by rw [size_putRow]; exact hB) 0 os)
theorem encStr_ofB (l : List (List UInt8)) : (l.map ofB).map Value.string = l.map encStr := by
  rw [List.map_map]; rfl
theorem own_sortedS {w : World} {base e g n cap q : Nat} {zs ys : List (List UInt8)} {os : Array Obj} (h : w.ownsRow base e 1 (.slice (some ⟨g, 0, none⟩) n cap) n (zs.map encStr)) (hy : ys.length = n) :
    (grow (putRow encStr (Sort.ahead w q) g 0 ys.toArray) os).ownsRow base e 1 (.slice (some ⟨g, 0, none⟩) n cap) n (ys.map encStr) := by
  have h1 := Lib.ownsRow_putRow (q := q) (k := n) h hy (Nat.le_refl _)
  rw [List.take_of_length_le (by omega)] at h1
  exact Lib.ownsRow_grow h1 0 os
def slices_Sort_string_string.f (l0 : List ByteArray) : Option (List ByteArray) := if l0.length < 4611686018427387904 then some (sortdS l0) else none
/-- A row of the call's own, sorted in its place. -/
theorem slices_Sort_string_string.sorts {w W : World} {v : Value} {l r : List ByteArray} (hR : Kd.R Kd.string 9 W w.heap.size (fun _ => True) v l) (hB : Below w.heap.size w W) (hl : slices_Sort_string_string.f l = some r) :
    Calls Tryd.prog 47 #[v] W fun e w' => e = .returned (.tuple #[]) ∧ Kd.R Kd.string 9 w' w.heap.size (fun _ => True) v r ∧ Below w.heap.size w w' := by
  unfold slices_Sort_string_string.f at hl
  split at hl
  case isFalse => cases hl
  rename_i hl0
  obtain rfl := Option.some.inj hl
  have ho := Kd.own_of_R hR
  by_cases hv : v = .slice none 0 0
  · subst hv
    obtain rfl : l = [] := by
      rcases ho.2 with ⟨_, h0⟩ | ⟨g, cap, cur, h1, _⟩
      · exact List.eq_nil_of_length_eq_zero h0
      · cases h1
    refine (Tryd.slices_Sort_string_none none 0 W).mono ?_
    rintro e w2 ⟨rfl, rfl⟩
    have e1 : sortdS ([] : List ByteArray) = [] := List.eq_nil_of_length_eq_zero (by have := sortdS_len []; simpa using this)
    rw [e1]
    exact ⟨rfl, hR, hB⟩
  · have ho' : W.ownsRow w.heap.size 9 1 v l.length ((l.map bl).map encStr) := by
      have e : (l.map bl).map encStr = l.map Value.string := by rw [List.map_map]; rfl
      rw [e]; exact ho
    obtain ⟨g, cap, rfl, hg, hlt, hn, hm, hll, hH⟩ := Lib.holds_of_ownsRow ho' hv
    have hs := Tryd.slices_Sort_string g 0 cap (l.map bl) W hH hlt (by rw [List.length_map]; omega)
    rw [List.length_map] at hs
    refine hs.mono ?_
    rintro e w2 ⟨rfl, n, os, rfl⟩
    have ho2 := own_sortedS (q := n) (os := os) ho' (ys := (l.map bl).mergeSort fun x y => decide (x ≤ y)) (by rw [List.length_mergeSort, List.length_map])
    have hB2 := below_sortedS (n := n) (d := ((l.map bl).mergeSort fun x y => decide (x ≤ y)).toArray) (os := os) hB hg (by omega)
    refine ⟨rfl, Kd.R_of_own ?_ (fun _ _ => trivial), hB2⟩
    rw [sortdS_len]
    show World.ownsRow _ _ _ _ _ _ ((sortdS l).map Value.string)
    rw [sortdS, encStr_ofB]
    exact ho2

/-! ### slices_Compact_string_string: function 48 (by hand) -/
theorem str_eq (x y : ByteArray) : (x.toList == y.toList) = decide (x = y) := by
  rw [ByteArray.toList_eq, ByteArray.toList_eq]
  by_cases h : x = y
  · subst h; simp
  · rw [decide_eq_false h]
    exact beq_eq_false_iff_ne.2 (fun e => h (bl_inj e))
theorem EqlAt.stringD (P : Program) (T : TypeId) : EqlAt P T Value.string (fun x y => decide (x = y)) := ⟨fun x y w => by rw [(EqlAt.string P T).1 x y w]; dsimp only; rw [str_eq], (EqlAt.string P T).2⟩
theorem NeqAt.stringD (P : Program) (T : TypeId) : NeqAt P T Value.string (fun x y => decide (x = y)) := ⟨fun x y w => by rw [(NeqAt.string P T).1 x y w]; dsimp only; rw [str_eq], (NeqAt.string P T).2⟩
/-- Compacted. -/
theorem compact_row {w W : World} {v : Value} {l : List ByteArray} (hR : Kd.R Kd.string 9 W w.heap.size (fun _ => True) v l) (hB : Below w.heap.size w W) (hl : l.length < 1000000000) :
    Calls Tryd.prog 48 #[v] W fun e w' => ∃ v', e = .returned v' ∧ Kd.R Kd.string 9 w' w.heap.size (fun _ => True) v' (Lib.compactUpTo l.toArray l.toArray.size) ∧ Below w.heap.size w w' := by
  have ho := Kd.own_of_R hR
  by_cases hv : v = .slice none 0 0
  · subst hv
    obtain rfl : l = [] := by
      rcases ho.2 with ⟨_, h0⟩ | ⟨g, cap, cur, h1, _⟩
      · exact List.eq_nil_of_length_eq_zero h0
      · cases h1
    have HB := Aside0.mk hB
    have HR := Aside0.mk hR
    clear hB hR ho hl
    go_enter Tryd.func48, Tryd.ntmps48
    go_wp2
    go_ret
    exact ⟨_, rfl, HR.out, HB.out⟩
  · obtain ⟨g, cap, rfl, hg, hlt, hn, hm, hll, hH⟩ := Lib.holds_of_ownsRow ho hv
    have hc := Tryd.slices_Compact Value.string (fun _ => rfl) (EqlAt.stringD _ _) (NeqAt.stringD _ _) (⟨#[]⟩ : ByteArray) Tryd.zeroValue9 g 0 cap l.toArray W hH (by simp; omega) (by simpa using hn)
    have hcl : (Lib.compactUpTo l.toArray l.toArray.size).length ≤ l.length := by
      unfold Lib.compactUpTo
      rw [List.length_map]
      refine Nat.le_trans (List.length_filter_le _ _) ?_
      simp
    simp only [List.size_toArray] at hc hcl ⊢
    refine hc.mono ?_
    rintro e w3 ⟨rfl, q, rfl⟩
    have h3 := Lib.ownsRow_putRow (q := q) (k := (Lib.compactUpTo l.toArray l.length).length) (ys := Lib.compactUpTo l.toArray l.length ++ List.replicate (l.length - (Lib.compactUpTo l.toArray l.length).length) (⟨#[]⟩ : ByteArray)) ho (by simp; omega) hcl
    rw [List.take_append_of_le_length (Nat.le_refl _), List.take_length] at h3
    exact ⟨_, rfl, Kd.R_of_own h3 (fun _ _ => trivial), Lib.below_putRow hB hg⟩

/-! ### tree_paths: function 40 (by hand) -/
open Go.Maps
theorem keyOf_str {x : ByteArray} {kl : Lit} (h : keyOf Tryd.prog 9 (.string x) = some kl) : kl = kS x := by
  simp [keyOf, Tryd.underlying9, mapKey] at h
  exact h.2.symm
theorem keyOf_str_ok {x : ByteArray} {kl : Lit} (h : keyOf Tryd.prog 9 (.string x) = some kl) : x.size ≤ maxLen := by
  simp [keyOf, Tryd.underlying9, mapKey] at h
  exact h.1
theorem mget_mem (m : MP) (s : ByteArray) : (mget m s).isSome = true ↔ s ∈ m.map Prod.fst := by
  induction m with
  | nil => simp [mget]
  | cons p m ih =>
    rw [mget]
    by_cases h : p.1 = s
    · simp [h]
    · rw [if_neg h, ih]; simp [Ne.symm h]
theorem sameKey_str (s t : ByteArray) : (kS s).sameKey (kS t) = decide (s = t) := by
  by_cases h : s = t
  · subst h; simp [kS, Lit.sameKey]
  · rw [decide_eq_false h]
    exact sameKey_ne (fun e => h (kS_inj e))
/-- All keys of the maps, in increasing order. -/
def pathsM (ms : List MP) : List ByteArray := uniqS (ms.flatMap fun m => m.map Prod.fst)
theorem mem_pathsM (ms : List MP) (s : ByteArray) : s ∈ pathsM ms ↔ ∃ m ∈ ms, (mget m s).isSome = true := by
  rw [pathsM, mem_uniqS, List.mem_flatMap]
  constructor
  · rintro ⟨m, h1, h2⟩; exact ⟨m, h1, (mget_mem m s).2 h2⟩
  · rintro ⟨m, h1, h2⟩; exact ⟨m, h1, (mget_mem m s).1 h2⟩
/-- The maps bs stand in the cells from 0 on of block G. -/
def MapsAt (w : World) (G : Nat) (bs : List (Nat × MP)) : Prop := ∀ j (h : j < bs.length), w.cell? ⟨G, j, none⟩ = some (.map (some (bs[j]).1)) ∧ SM Tryd.prog 9 3 w (bs[j]).1 1000000 (bs[j]).2
set_option maxHeartbeats 4000000 in
set_option maxRecDepth 100000 in
theorem tree_paths.calls_ (G c : Nat) (bs : List (Nat × MP)) (w : World) (hG : G < w.heap.size) (hr : MapsAt w G bs) (hn : bs.length ≤ 10) :
    Calls Tryd.prog 40 #[.slice (some ⟨G, 0, none⟩) bs.length c] w fun e w' => ∃ v, e = .returned v ∧ Kd.R Kd.string 9 w' w.heap.size (fun _ => True) v (pathsM (bs.map Prod.snd)) ∧ Below w.heap.size w w' := by
  have info9 : (Tryd.prog.info? 9).map (fun i => (i.zero, i.size, i.bytes)) = some (some (.string ⟨#[]⟩), 1, 16) := by kernel_rfl
  have HI := Aside0.mk info9
  have HR := Aside0.mk (And.intro hr (And.intro hG hn))
  clear hr hG hn info9
  go_enter Tryd.func40, Tryd.ntmps40
  go_wp2
  go_loopg [3, 9] bs.length (fun kq v3 v9 w' => ∃ (i : Nat) (out : List ByteArray), v9 = .int .i64 (i : Int) ∧ Aside0 (i ≤ bs.length ∧ bs.length - i ≤ kq) ∧ Aside0 (∀ s, s ∈ out ↔ ∃ j, ∃ h : j < bs.length, j < i ∧ (mget (bs[j]).2 s).isSome = true) ∧ Aside0 (out.length ≤ i * 1000000) ∧ Aside0 (Kd.R Kd.string 9 w' w.heap.size (fun _ => True) v3 out) ∧ Aside0 (Below w.heap.size w w'))
  case atStart => exact ⟨0, [], rfl, ⟨Nat.zero_le _, by omega⟩, ⟨fun s => by simp⟩, ⟨by simp⟩, ⟨Kd.R_nil _ _ _ _ _⟩, ⟨Below.refl _ _⟩⟩
  case round =>
    obtain ⟨i, out, rfl, HK, HM, HL, HO, HB⟩ := hrel
    by_cases hlt : i < bs.length
    · cases gk with
      | zero => exfalso; have := HK.out; omega
      | succ k1 =>
        have c1 : decide ((i : Int) < (bs.length : Int)) = true := decide_eq_true (by omega)
        obtain ⟨hx, hsm⟩ := HR.out.1 i hlt
        have hbl := hsm.lt
        replace hx := (HB.out.cell (World.block_lt_of_cell? w _ hx)).trans hx
        replace hsm := hsm.below HB.out
        have p : (0 ≤ (i : Int)) = True := eq_true (by omega)
        have q : ((i : Int) < (bs.length : Int)) = True := eq_true (by omega)
        generalize hb : (bs[i]).1 = b at hx hsm hbl
        generalize hmm : (bs[i]).2 = m at hsm
        obtain ⟨D, hD, hRp⟩ := hsm
        have HD := Aside0.mk (And.intro hD hRp)
        have HE := Aside0.mk hmm
        have HBL := Aside0.mk hbl
        clear hD hRp hmm hb hbl
        go_wp2_with (first
          | (at_range; refine wpList_range_own _ rfl _ 51 rfl 9 3 law9 Tryd.underlying51 _ b 1000000 D rfl HD.out.1 ?_; intro w0 hrg0 hg0 hs0))
        have HRG := Aside0.mk hrg0
        have HSZ := Aside0.mk (And.intro hs0 (And.intro HD.out.1.lt HD.out.1.size_le))
        have n0_ := Aside0.mk (Kd.R_mono (Kd.R_grown (Kd.R_bound HO.out) hg0 (fun k _ => by simp)) (ok' := fun k => k ≠ wr.heap.size) (fun k hk => Nat.ne_of_lt hk.2.2.1))
        have n1_ := Aside0.mk (HB.out.grown hg0 HB.out.size (fun k hk => by cases hk))
        have HB0 := HB
        clear HO HB hrg0 hg0 hs0
        have HO := n0_; have HB := n1_; clear n0_ n1_
        have HRL := Aside0.mk (show w.heap.size ≤ wr.heap.size from HB0.out.size)
        generalize hr0 : wr.heap.size = r at HRG HSZ HO HRL ⊢
        go_frame
        go_loopw [3] (fun v3 w2 => ∃ (left : Lit → Bool) (cnt : Nat) (out2 : List ByteArray), Aside0 (w2.ranges Tryd.prog 9 (plainElem Tryd.prog 3) b r 1000000 D left cnt) ∧ Aside0 (∀ s, s ∈ out2 ↔ s ∈ out ∨ ((mget m s).isSome = true ∧ left (kS s) = false)) ∧ Aside0 (out2.length + cnt ≤ i * 1000000 + 1000000) ∧ Aside0 (Kd.R Kd.string 9 w2 w.heap.size (fun k => k ≠ r) v3 out2) ∧ Aside0 (Below w.heap.size w w2))
          (fun _ w2 => w2.rangeLeft b r)
        case atStart =>
          refine ⟨_, _, out, HRG, ⟨fun s => ?_⟩, ⟨by have := HL.out; have := HSZ.out.2.2; omega⟩, HO, HB⟩
          · rw [(HD.out.2 s).1]
            constructor
            · exact .inl
            · rintro (h | ⟨h1, h2⟩)
              · exact h
              · rw [h1] at h2; cases h2
        case round =>
          obtain ⟨left, cnt, out2, hrg, HM2, HL2, HO2, HB2⟩ := hrel
          go_wp2_with (first
            | (at_next; refine wpList_next_ranges _ rfl _ rfl 9 law9 (plainElem Tryd.prog 3) Value.string (Value.int .i64) (fun key kl h => Maps.keyOf_string_inv Tryd.underlying9 h) (fun v y h => by obtain ⟨c, rfl, _⟩ := plainElem_int_inv Tryd.underlying3 h; exact ⟨c, rfl⟩) b r 1000000 D left cnt rfl hrg.out ?_ ?_))
          · intro hc0 hl0
            have HE0 := Aside0.mk (And.intro hc0 hl0)
            clear hc0 hl0
            go_wp2
            go_roundg k1
            case measure => omega
            case rel =>
              refine ⟨i + 1, out2, by rw [w_inc_ i (by have := HR.out.2.2; omega)], ⟨by omega, by have := HK.out; omega⟩, ⟨fun s => ?_⟩, ⟨by have := HL2.out; omega⟩, ⟨Kd.R_mono HO2.out (fun _ _ => trivial)⟩, HB2⟩
              rw [HM2.out s, HM.out s]
              constructor
              · rintro (⟨j, h, h1, h2⟩ | ⟨h1, h2⟩)
                · exact ⟨j, h, by omega, h2⟩
                · exact ⟨i, hlt, by omega, by rw [HE.out]; exact h1⟩
              · rintro ⟨j, h, h1, h2⟩
                rcases Nat.lt_or_ge j i with h3 | h3
                · exact .inl ⟨j, h, h3, h2⟩
                · obtain rfl : j = i := by omega
                  exact .inr ⟨by rw [← HE.out]; exact h2, HE0.out.2 _⟩
          · skip
            intro x c kl y1 y2 w3 cnt3 hkey hlk hy hat hrg3 hlt3 hg3 hs3 hen
            obtain rfl := keyOf_str hkey
            have hhas : Maps.has D (kS x) = true := has_true_of_atKey hat
            rw [(HD.out.2 x).1] at hhas
            have HX := Aside0.mk (And.intro hhas (And.intro hlk hlt3))
            have HRG3 := Aside0.mk hrg3
            have HO3 := Aside0.mk (Kd.R_grown HO2.out hg3 (fun k hk => by simpa using hk))
            have HB3 := Aside0.mk (HB2.out.grown hg3 HB2.out.size (fun k hk => by cases hk; exact HRL.out))
            have HEQ := Aside0.mk (hrg.out.left_eq)
            clear hkey hhas hlk hlt3 hat hy hrg3 hg3 hs3
            go_wp2_with (first
              | ((with_reducible refine gate_builtin (b := .append) (xs := #[.tmp 19, .tmp 21]) rfl ?_); at_builtin; refine Kd.R_append Kd.string (w0 := w) w.heap.size rfl (.tmp 19) (.tmp 21) 39 9 (.string ⟨#[]⟩) 16 rfl Tryd.underlying39 HI.out rfl (by decide) (by omega) _ out2 x [.string x] (fun k => k ≠ r) (fun _ => False) rfl rfl rfl (fun _ hk => hk.elim) (fun k hk => ?fr) HO3.out HB3.out HB3.out.size ?len ?_;
                 (case fr => have := HRG3.out.lt; omega);
                 (case len => have := HL2.out; have := HR.out.2.2; omega);
                 intro v4 w4 ho4 hb4 hg4 hat4
                 have n0_ := Aside0.mk ho4; have n1_ := Aside0.mk hb4
                 have n2_ := Aside0.mk (HRG3.out.kept hg4 (fun e => by have := own_base (Kd.own_of_R HO3.out) b e.symm; have := HBL.out; omega) (fun e => HO3.out.1 r e.symm rfl))
                 clear ho4 hb4 hg4 hat4 HO3 HB3 HRG3
                 have HO3 := n0_; have HB3 := n1_; have HRG3 := n2_; clear n0_ n1_ n2_; go_frame))
            refine ⟨⟨_, cnt3, out2 ++ [x], HRG3, ⟨fun s => ?_⟩, ⟨by have := HL2.out; have := HX.out.2.2; rw [List.length_append, List.length_singleton]; omega⟩, HO3, HB3⟩, ?_⟩
            · rw [List.mem_append, List.mem_singleton, HM2.out s, sameKey_str]
              constructor
              · rintro ((h | ⟨h1, h2⟩) | rfl)
                · exact .inl h
                · exact .inr ⟨h1, by rw [h2]; rfl⟩
                · exact .inr ⟨HX.out.1, by simp⟩
              · rintro (h | ⟨h1, h2⟩)
                · exact .inl (.inl h)
                · rw [Bool.and_eq_false_iff] at h2
                  rcases h2 with h2 | h2
                  · exact .inl (.inr ⟨h1, h2⟩)
                  · exact .inr (by simpa using h2)
            · rw [HRG3.out.left_eq, HEQ.out]
              exact HX.out.2.2
    · have hi : i = bs.length := by have := HK.out; omega
      have c1 : decide ((i : Int) < (bs.length : Int)) = false := decide_eq_false (by omega)
      have hlen : out.length ≤ 10000000 := by have := HL.out; have := HR.out.2.2; omega
      have hu : uniqS out = pathsM (bs.map Prod.snd) := inc_ext (uniqS_inc _) (uniqS_inc _) (fun s => by
        rw [mem_uniqS, HM.out s]
        show _ ↔ s ∈ pathsM (bs.map Prod.snd)
        rw [mem_pathsM]
        constructor
        · rintro ⟨j, h, _, h2⟩
          exact ⟨(bs[j]).2, List.mem_map.2 ⟨bs[j], List.getElem_mem _, rfl⟩, h2⟩
        · rintro ⟨m, hm, h2⟩
          obtain ⟨p, hp, rfl⟩ := List.mem_map.1 hm
          obtain ⟨j, h, rfl⟩ := List.mem_iff_getElem.1 hp
          exact ⟨j, h, by omega, h2⟩)
      obtain ⟨A, cA, rfl⟩ := Kd.R_slice HO.out
      have hs := Aside0.mk (slices_Sort_string_string.sorts HO.out HB.out (r := sortdS out) (by rw [slices_Sort_string_string.f, if_pos (by omega)]))
      have HU := Aside0.mk (And.intro hu hlen)
      clear HK HM HL HO HB hu hlen
      go_wp2_with fail
      go_at_call 47
      refine hs.out.mono ?_
      rintro e w2 ⟨rfl, hR2, hB2⟩
      clear hs
      have hc := Aside0.mk (compact_row hR2 hB2 (by rw [sortdS_len]; have := HU.out.2; omega))
      rw [show Lib.compactUpTo (sortdS out).toArray (sortdS out).toArray.size = pathsM (bs.map Prod.snd) from HU.out.1] at hc
      clear hR2 hB2
      go_wp2_with fail
      go_at_call 48
      refine hc.out.mono ?_
      rintro e w3 ⟨v', rfl, hR3, hB3⟩
      have HO := Aside0.mk hR3
      have HB := Aside0.mk hB3
      clear hc hR3 hB3
      go_wp2
      go_ret
      exact ⟨_, rfl, HO.out, HB.out⟩

/-! ### tree_files: function 37 (by hand) -/
open Go.Maps
def valM (m : MP) (s : ByteArray) : Int := (mget m s).getD 0
/-- The files with contents, in increasing order of their paths. -/
def filesM (m : MP) : List S45 := ((pathsM [m]).filter fun s => decide (valM m s ≠ 0)).map fun s => ⟨s, valM m s⟩
theorem at9 {w : World} {A : Option Addr} {n : Nat} {xs : List ByteArray} (h : Kd.string.C w A n xs) (i : Nat) (hi : i < n) (hn : n = xs.length) : ∃ ad, A = some ad ∧ w.cell? (ad.add i) = some (.string (xs[i]'(by omega))) := by
  obtain ⟨ad, e, hx⟩ := Kd.at_string h (i : Int) (by omega) (by omega)
  refine ⟨ad, e, ?_⟩
  rw [Int.toNat_natCast] at hx
  rw [hx]
  simp [rdOf, List.getD_eq_getElem?_getD, List.getElem?_eq_getElem (show i < xs.length by omega)]
theorem filt_snoc (m : MP) (ks : List ByteArray) (i : Nat) (h : i < ks.length) :
    (((ks.take (i + 1)).filter fun s => decide (valM m s ≠ 0)).map fun s => (⟨s, valM m s⟩ : S45)) = (((ks.take i).filter fun s => decide (valM m s ≠ 0)).map fun s => (⟨s, valM m s⟩ : S45)) ++ (if valM m ks[i] ≠ 0 then [⟨ks[i], valM m ks[i]⟩] else []) := by
  rw [List.take_succ_eq_append_getElem h, List.filter_append, List.map_append]
  congr 1
  by_cases hz : valM m ks[i] = 0
  · rw [if_neg (fun h => h hz)]; simp [hz]
  · rw [if_pos hz]; simp [hz]
theorem SM.look {m : MP} {D : DataW Unit} (hR : Rep D m) {s : ByteArray} {c : Int} (h : D.atKey (kS s) (.lit (.int .i64 0)) = .lit (.int .i64 c)) : c = valM m s := by
  have h1 := (hR s).2
  rw [i0, h] at h1
  injection h1 with h1
  injection h1
set_option maxHeartbeats 4000000 in
set_option maxRecDepth 100000 in
theorem tree_files.calls_ (b : Nat) (m : MP) (w : World) (hm : SM Tryd.prog 9 3 w b 1000000 m) (hk : (pathsM [m]).all okS = true) (hlen : m.length ≤ 1000000) :
    Calls Tryd.prog 37 #[.map (some b)] w fun e w' => ∃ v, e = .returned v ∧ Kd.R k45 45 w' w.heap.size (fun _ => True) v (filesM m) ∧ Below w.heap.size w w' := by
  have hu45 := Tryd.underlying45
  have info45 : (Tryd.prog.info? 45).map (fun i => (i.zero, i.size, i.bytes)) = some (some (.agg #[(.string ⟨#[]⟩), (.int .i64 0)]), 2, 24) := by kernel_rfl
  have HI := Aside0.mk info45
  have HM := Aside0.mk hm
  have HK0 := Aside0.mk (And.intro hk hlen)
  clear hm hk hlen info45
  go_enter Tryd.func37, Tryd.ntmps37
  go_wp2_with fail
  go_at_call 40
  generalize hw1 : w.alloc _ = w1
  have hs1 : w1.heap.size = w.heap.size + 1 := by rw [← hw1]; simp
  have hb1 : Below w.heap.size w w1 := by rw [← hw1]; exact below_alloc (Below.refl _ _) _
  have hat : MapsAt w1 w.heap.size [(b, m)] := by
    intro j hj
    have hj0 : j = 0 := by simpa using hj
    subst hj0
    exact ⟨by rw [← hw1]; simp, HM.out.below hb1⟩
  refine (tree_paths.calls_ w.heap.size 1 [(b, m)] w1 (by omega) hat (by simp)).mono ?_
  rintro e w2 ⟨v, rfl, hR, hB⟩
  clear hw1 hat
  have hB2 := below_then hb1 hb1.size hB
  obtain ⟨A, cA, rfl⟩ := Kd.R_slice hR
  have hpl : (pathsM [m]).length ≤ m.length := by
    have := uniqS_len ([m].flatMap fun m => m.map Prod.fst)
    simpa [pathsM] using this
  have HP := Aside0.mk (And.intro (Kd.R_reads' hR).2.2 hpl)
  have HB := Aside0.mk hB2
  clear hs1 hb1 hR hB hB2 hpl
  change Aside0 (Kd.C Kd.string w2 A (pathsM [m]).length (pathsM [m]) ∧ _) at HP
  simp only [List.map_cons, List.map_nil]
  generalize hks : pathsM [m] = ks at HP HK0
  have HKS := Aside0.mk hks
  clear hks
  go_wp2
  go_loopg [3, 10] ks.length (fun kq v3 v10 w' => ∃ (i : Nat), v10 = .int .i64 (i : Int) ∧ Aside0 (i ≤ ks.length ∧ ks.length - i ≤ kq) ∧ Aside0 (Kd.R k45 45 w' w2.heap.size (fun _ => True) v3 (((ks.take i).filter fun s => decide (valM m s ≠ 0)).map fun s => (⟨s, valM m s⟩ : S45))) ∧ Aside0 (Below w2.heap.size w2 w'))
  case atStart => exact ⟨0, rfl, ⟨Nat.zero_le _, by omega⟩, ⟨Kd.R_nil _ _ _ _ _⟩, ⟨Below.refl _ _⟩⟩
  case round =>
    obtain ⟨i, rfl, HK, HO, HB2⟩ := hrel
    by_cases hlt : i < ks.length
    · cases gk with
      | zero => exfalso; have := HK.out; omega
      | succ k1 =>
        have c1 : decide ((i : Int) < (ks.length : Int)) = true := decide_eq_true (by omega)
        obtain ⟨ad, e, hx⟩ := at9 HP.out.1 i hlt rfl
        subst e
        replace hx := (HB2.out.cell (World.block_lt_of_cell? w2 _ hx)).trans hx
        have p : (0 ≤ (i : Int)) = True := eq_true (by omega)
        have q : ((i : Int) < (ks.length : Int)) = True := eq_true (by omega)
        have HS := Aside0.mk (show okS ks[i] = true from List.all_eq_true.1 HK0.out.1 _ (List.getElem_mem _))
        have HF := Aside0.mk (filt_snoc m ks i hlt)
        generalize ks[i] = s at hx HS HF
        obtain ⟨D, hD, hRp⟩ := (HM.out.below HB.out).below HB2.out
        have HD := Aside0.mk (And.intro hD hRp)
        clear hD hRp
        by_cases hz : valM m s = 0
        · go_wp2_with (first
            | (at_lookup; refine wpList_lookup_own_int _ rfl _ _ 51 rfl 9 3 .i64 law9 Tryd.underlying51 Tryd.underlying3 (zero3 _) b 1000000 D rfl HD.out.1 _ _ rfl (key_ok HS.out) ?_; intro c hat hwc; obtain rfl := SM.look HD.out.2 hat; clear hat hwc; simp only [hz]))
          go_roundg k1
          case measure => omega
          case rel =>
            refine ⟨i + 1, by rw [w_inc_ i (by have := HP.out.2; have := HK0.out.2; omega)], ⟨by omega, by have := HK.out; omega⟩, ⟨?_⟩, HB2⟩
            rw [HF.out, if_neg (fun h => h hz), List.append_nil]
            exact HO.out
        · go_wp2_with (first
            | (at_lookup; refine wpList_lookup_own_int _ rfl _ _ 51 rfl 9 3 .i64 law9 Tryd.underlying51 Tryd.underlying3 (zero3 _) b 1000000 D rfl HD.out.1 _ _ rfl (key_ok HS.out) ?_; intro c hat hwc; obtain rfl := SM.look HD.out.2 hat; clear hat hwc)
            | ((with_reducible refine gate_builtin (b := .append) (xs := #[.tmp 18, .tmp 24]) rfl ?_); at_builtin
               refine Kd.R_append k45 (w0 := w2) w2.heap.size rfl (.tmp 18) (.tmp 24) 22 45 (.agg #[(.string ⟨#[]⟩), (.int .i64 0)]) 24 rfl Tryd.underlying22 HI.out rfl (by decide) (by omega) _ _ (⟨s, valM m s⟩ : S45) [.string s, .int .i64 (valM m s)] (fun _ => True) (fun _ => False) rfl rfl (k45_mkM _ _ _ (⟨s, valM m s⟩ : S45)) (fun _ hk => hk.elim) (fun _ _ => trivial) HO.out HB2.out HB2.out.size ?len ?_;
               (case len => rw [List.length_map]; have h1 := List.length_filter_le (fun s => decide (valM m s ≠ 0)) (ks.take i); rw [List.length_take] at h1; have := HP.out.2; have := HK0.out.2; omega);
               intro v4 w4 ho4 hb4 hg4 hat4
               have n0_ := Aside0.mk ho4; have n1_ := Aside0.mk hb4
               clear ho4 hb4 hg4 hat4 HO HB2
               have HO := n0_; have HB2 := n1_; clear n0_ n1_))
          go_roundg k1
          case measure => omega
          case rel =>
            refine ⟨i + 1, by rw [w_inc_ i (by have := HP.out.2; have := HK0.out.2; omega)], ⟨by omega, by have := HK.out; omega⟩, ⟨?_⟩, HB2⟩
            rw [HF.out, if_pos hz]
            exact HO.out
    · have hi : i = ks.length := by have := HK.out; omega
      have c1 : decide ((i : Int) < (ks.length : Int)) = false := decide_eq_false (by omega)
      have h1 := HO.out
      rw [hi, List.take_length, ← HKS.out] at h1
      have HO2 := Aside0.mk h1
      clear h1 HO
      go_wp2
      go_ret
      exact ⟨_, rfl, Kd.R_lower HO2.out HB.out.size, below_then HB.out HB.out.size HB2.out⟩
theorem mget_conts (l : List S45) (s : ByteArray) : (mget (contsM l) s).isSome = true ↔ ∃ f ∈ l, f.f0 = s := by
  have key : ∀ (l : List S45) (m : MP), (mget (l.foldl (fun m x => mput m x.f0 x.f1) m) s).isSome = true ↔ (∃ f ∈ l, f.f0 = s) ∨ (mget m s).isSome = true := by
    intro l
    induction l with
    | nil => intro m; simp
    | cons a l ih =>
      intro m
      rw [List.foldl_cons, ih, mget_put]
      by_cases h : a.f0 = s
      · simp [h]
      · rw [if_neg h]; simp [h]
  have := key l []
  simpa [contsM, mget] using this
theorem okS_conts {l : List S45} (h : okFs l = true) {s : ByteArray} (hs : (mget (contsM l) s).isSome = true) : okS s = true := by
  obtain ⟨f, hf, rfl⟩ := (mget_conts l s).1 hs
  have := List.all_eq_true.1 h f hf
  rw [Bool.and_eq_true] at this
  exact this.1
theorem okS_paths {ls : List (List S45)} (h : ∀ l ∈ ls, okFs l = true) : (pathsM (ls.map contsM)).all okS = true := by
  rw [List.all_eq_true]
  intro s hs
  obtain ⟨m, hm, h2⟩ := (mem_pathsM _ s).1 hs
  obtain ⟨l, hl, rfl⟩ := List.mem_map.1 hm
  exact okS_conts (h l hl) h2
theorem contsM_len (l : List S45) : (contsM l).length = l.length := by
  have key : ∀ (l : List S45) (m : MP), (l.foldl (fun m x => mput m x.f0 x.f1) m).length = m.length + l.length := by
    intro l
    induction l with
    | nil => intro m; rfl
    | cons a l ih => intro m; rw [List.foldl_cons, ih, mput, List.length_cons, List.length_cons]; omega
  have := key l []
  simpa [contsM] using this
theorem pathsM_len (ms : List MP) (N : Nat) (h : ∀ m ∈ ms, m.length ≤ N) : (pathsM ms).length ≤ ms.length * N := by
  refine Nat.le_trans (uniqS_len _) ?_
  induction ms with
  | nil => simp
  | cons m ms ih =>
    have h1 := ih (fun m hm => h m (by simp [hm]))
    have h2 := h m (by simp)
    rw [List.flatMap_cons, List.length_append, List.length_map, List.length_cons, Nat.succ_mul]
    omega

/-! ### stringslite_Cut: function 49 -/
def stringslite_Cut.f (a0 : ByteArray) (a1 : ByteArray) : Option (ByteArray × ByteArray × Bool) := (stringslite_Index.f a0 a1).bind fun t141 => (if t141 ≥ 0 then (if 0 ≤ t141 then (if t141 ≤ (a0.size : Int) then (if 0 ≤ (wrap64 (t141 + (a1.size : Int))) then (if (wrap64 (t141 + (a1.size : Int))) ≤ (a0.size : Int) then (some (a0.extract 0 (t141 : Int).toNat, a0.extract ((wrap64 (t141 + (a1.size : Int))) : Int).toNat a0.size, true)) else (none)) else (none)) else (none)) else (none)) else (some (a0, (⟨#[]⟩ : ByteArray), false)))
set_option maxHeartbeats 4000000 in
set_option maxRecDepth 100000 in
theorem stringslite_Cut.calls (a0 : ByteArray) (a1 : ByteArray) (r1 : ByteArray) (r2 : ByteArray) (r3 : Bool) (w : World) (h : stringslite_Cut.f a0 a1 = some (r1, r2, r3)) :
  Calls Tryd.prog 49 #[.string a0,.string a1] w fun e w' => e = .returned (.tuple #[.string r1,.string r2,.bool r3]) ∧ Drawn0 w w' := by
 have H : ((stringslite_Index.f a0 a1).bind fun t141 => (if t141 ≥ 0 then (if 0 ≤ t141 then (if t141 ≤ (a0.size : Int) then (if 0 ≤ (wrap64 (t141 + (a1.size : Int))) then (if (wrap64 (t141 + (a1.size : Int))) ≤ (a0.size : Int) then (some (a0.extract 0 (t141 : Int).toNat,a0.extract ((wrap64 (t141 + (a1.size : Int))) : Int).toNat a0.size,true)) else (none)) else (none)) else (none)) else (none)) else (some (a0,(⟨#[]⟩ : ByteArray),false)))) = some (r1,r2,r3) := h
 clear h
 replace H := Option.bind_eq_some_iff.mp H
 obtain ⟨t141,A30,H⟩ := H
 replace H : (if t141 ≥ 0 then (if 0 ≤ t141 then (if t141 ≤ (a0.size : Int) then (if 0 ≤ (wrap64 (t141 + (a1.size : Int))) then (if (wrap64 (t141 + (a1.size : Int))) ≤ (a0.size : Int) then (some (a0.extract 0 (t141 : Int).toNat,a0.extract ((wrap64 (t141 + (a1.size : Int))) : Int).toNat a0.size,true)) else (none)) else (none)) else (none)) else (none)) else (some (a0,(⟨#[]⟩ : ByteArray),false))) = some (r1,r2,r3) := H
 have A3 := Aside0.mk A30
 clear A30
 by_cases c4 : t141 ≥ 0
 ·rw [if_pos c4] at H
  have c4b0 : decide (0 ≤ t141) = true := decide_eq_true c4
  clear c4
  by_cases c5 : 0 ≤ t141
  ·rw [if_pos c5] at H
   have c5b0 := eq_true c5
   have c5b1 : decide (0 ≤ t141) = true := decide_eq_true c5
   clear c5
   by_cases c6 : t141 ≤ (a0.size : Int)
   ·rw [if_pos c6] at H
    have c6b0 := eq_true c6
    have c6b1 : decide (t141 ≤ (a0.size : Int)) = true := decide_eq_true c6
    clear c6
    obtain ⟨ji7,hji7⟩ : ∃ j_ : Int,(wrap64 (t141 + (a1.size : Int))) = j_ := ⟨_,rfl⟩
    replace H : (if 0 ≤ (ji7) then (if (ji7) ≤ (a0.size : Int) then (some (a0.extract 0 (t141 : Int).toNat,a0.extract ((ji7) : Int).toNat a0.size,true)) else (none)) else (none)) = some (r1,r2,r3) := by first|(rw [hji7] at H;exact H)|(simp only [hji7] at H ⊢;exact H)
    (try rw [hji7] at A3)
    have hji7w : (IntKind.i64.wrap (t141 + (a1.size : Int))) = ji7 := (i64_w _).trans hji7
    by_cases c8 : 0 ≤ (ji7)
    ·rw [if_pos c8] at H
     have c8b0 := eq_true c8
     have c8b1 : decide (0 ≤ (ji7)) = true := decide_eq_true c8
     clear c8
     by_cases c9 : (ji7) ≤ (a0.size : Int)
     ·rw [if_pos c9] at H
      have c9b0 := eq_true c9
      have c9b1 : decide ((ji7) ≤ (a0.size : Int)) = true := decide_eq_true c9
      clear c9
      simp only [Option.some.injEq,Prod.mk.injEq] at H
      obtain ⟨rfl,rfl,rfl⟩ := H
      go_enter Tryd.func49,Tryd.ntmps49
      go_wp2_with (first|(go_at_call 56;(with_reducible refine (stringslite_Index.calls a0 a1 t141 _ A3.out).mono ?_);rintro e w' ⟨rfl,⟨nd,rfl⟩⟩;(try first|exact ⟨rfl,_,World.drewN_drewN _ _ _⟩|exact ⟨rfl,_,Eq.trans (World.drewN_drewN _ _ _) (congrArg (World.drewN _) (Nat.add_assoc _ _ _))⟩)))
      repeat (go_quiet (first|(go_at_call 56;(with_reducible refine (stringslite_Index.calls a0 a1 t141 _ A3.out).mono ?_);rintro e w' ⟨rfl,⟨nd,rfl⟩⟩;(try first|exact ⟨rfl,_,World.drewN_drewN _ _ _⟩|exact ⟨rfl,_,Eq.trans (World.drewN_drewN _ _ _) (congrArg (World.drewN _) (Nat.add_assoc _ _ _))⟩)));try go_wp2_with (first|(go_at_call 56;(with_reducible refine (stringslite_Index.calls a0 a1 t141 _ A3.out).mono ?_);rintro e w' ⟨rfl,⟨nd,rfl⟩⟩;(try first|exact ⟨rfl,_,World.drewN_drewN _ _ _⟩|exact ⟨rfl,_,Eq.trans (World.drewN_drewN _ _ _) (congrArg (World.drewN _) (Nat.add_assoc _ _ _))⟩))))
      go_ret3
      exact ⟨by first|rfl|(simp;done)|(rw [Int.tdiv_eq_ediv_of_nonneg (by assumption)];done)|(rw [Int.tmod_eq_emod_of_nonneg (by assumption)];done)|(simp only [← hji7] <;> (first|rfl|simp))|(simp [*];done),by repeat (first|exact Drawn0.refl _|apply Drawn0.step)⟩
     ·rw [if_neg c9] at H
      exact absurd H (by simp)
    ·rw [if_neg c8] at H
     exact absurd H (by simp)
   ·rw [if_neg c6] at H
    exact absurd H (by simp)
  ·rw [if_neg c5] at H
   exact absurd H (by simp)
 ·rw [if_neg c4] at H
  have c4b0 : decide (0 ≤ t141) = false := decide_eq_false c4
  clear c4
  simp only [Option.some.injEq,Prod.mk.injEq] at H
  obtain ⟨rfl,rfl,rfl⟩ := H
  go_enter Tryd.func49,Tryd.ntmps49
  go_wp2_with (first|(go_at_call 56;(with_reducible refine (stringslite_Index.calls a0 a1 t141 _ A3.out).mono ?_);rintro e w' ⟨rfl,⟨nd,rfl⟩⟩;(try first|exact ⟨rfl,_,World.drewN_drewN _ _ _⟩|exact ⟨rfl,_,Eq.trans (World.drewN_drewN _ _ _) (congrArg (World.drewN _) (Nat.add_assoc _ _ _))⟩)))
  repeat (go_quiet (first|(go_at_call 56;(with_reducible refine (stringslite_Index.calls a0 a1 t141 _ A3.out).mono ?_);rintro e w' ⟨rfl,⟨nd,rfl⟩⟩;(try first|exact ⟨rfl,_,World.drewN_drewN _ _ _⟩|exact ⟨rfl,_,Eq.trans (World.drewN_drewN _ _ _) (congrArg (World.drewN _) (Nat.add_assoc _ _ _))⟩)));try go_wp2_with (first|(go_at_call 56;(with_reducible refine (stringslite_Index.calls a0 a1 t141 _ A3.out).mono ?_);rintro e w' ⟨rfl,⟨nd,rfl⟩⟩;(try first|exact ⟨rfl,_,World.drewN_drewN _ _ _⟩|exact ⟨rfl,_,Eq.trans (World.drewN_drewN _ _ _) (congrArg (World.drewN _) (Nat.add_assoc _ _ _))⟩))))
  go_ret3
  exact ⟨by first|rfl|(simp;done)|(simp [*];done),by repeat (first|exact Drawn0.refl _|apply Drawn0.step)⟩

/-! ### strings_Cut: function 42 -/
def strings_Cut.f (a0 : ByteArray) (a1 : ByteArray) : Option (ByteArray × ByteArray × Bool) := (stringslite_Cut.f a0 a1).bind fun bt142 => (some (bt142.1, bt142.2.1, bt142.2.2))
set_option maxHeartbeats 4000000 in
set_option maxRecDepth 100000 in
theorem strings_Cut.calls (a0 : ByteArray) (a1 : ByteArray) (r1 : ByteArray) (r2 : ByteArray) (r3 : Bool) (w : World) (h : strings_Cut.f a0 a1 = some (r1, r2, r3)) :
  Calls Tryd.prog 42 #[.string a0,.string a1] w fun e w' => e = .returned (.tuple #[.string r1,.string r2,.bool r3]) ∧ Drawn0 w w' := by
 have H : ((stringslite_Cut.f a0 a1).bind fun bt142 => (some (bt142.1,bt142.2.1,bt142.2.2))) = some (r1,r2,r3) := h
 clear h
 replace H := Option.bind_eq_some_iff.mp H
 obtain ⟨⟨t142,t143,t144⟩,A30,H⟩ := H
 replace H : (some (t142,t143,t144)) = some (r1,r2,r3) := H
 have A3 := Aside0.mk A30
 clear A30
 simp only [Option.some.injEq,Prod.mk.injEq] at H
 obtain ⟨rfl,rfl,rfl⟩ := H
 go_enter Tryd.func42,Tryd.ntmps42
 go_wp2_with (first|((with_reducible refine gate_callee (f := 49) rfl ?_);refine goesL_ (some 9) rfl rfl Tryd.func49 (by kernel_rfl) rfl #[.string a0,.string a1] rfl (by (try simp only [List.map_toArray,List.map_cons,List.map_nil]);first|done|rfl|(simp only [List.length_drop,List.length_take];rfl)) ?_;(with_reducible refine (stringslite_Cut.calls a0 a1 t142 t143 t144 _ A3.out).mono ?_);rintro e w' ⟨rfl,⟨nd,rfl⟩⟩;refine ⟨_,rfl,?_⟩))
 go_ret3
 exact ⟨by first|rfl|(simp;done)|(simp [*];done),by repeat (first|exact Drawn0.refl _|apply Drawn0.step)⟩

/-! ### tree_Get: function 14 -/
def tree_Get.l0 : Nat → ByteArray → List (S45) → Int → Int → Option (Int × Bool)
|0,_,_,_,_ => none
|k + 1,x1,x8,x9,x10 => if x10 < x9 then (if 0 ≤ x10 then (if x10 < (x8.length : Int) then (if ((rd_T45 x8 x10).f0).toList = x1.toList then (some ((rd_T45 x8 x10).f1,true)) else (tree_Get.l0 k x1 x8 x9 (wrap64 (x10 + 1)))) else (none)) else (none)) else (some (0,false))
def tree_Get.f (k : Nat) (l0 : List (S45)) (a1 : ByteArray) : Option (Int × Bool) := tree_Get.l0 k a1 l0 (l0.length : Int) 0
theorem tree_Get.mono_l : ∀ k, (∀ y0 y1 y2 y3, LeO (tree_Get.l0 k y0 y1 y2 y3) (tree_Get.l0 (k + 1) y0 y1 y2 y3))
|0 => fun _ _ _ _ r h => by simp [tree_Get.l0] at h
|k + 1 => by
  have ih0 := tree_Get.mono_l k
  ·intro y0 y1 y2 y3
   unfold tree_Get.l0
   repeat' first
  |(with_reducible exact ih0 _ _ _ _)
  |(with_reducible exact LeO.refl _)
  |(with_reducible exact LeO.none _)
  |(with_reducible refine LeO.ite ?_ ?_)
  |(with_reducible refine LeO.bind ?_ (fun _ => ?_))
  |exact ih0 _ _ _ _
  |exact LeO.none _
  |refine LeO.ite ?_ ?_
  |refine LeO.bind ?_ (fun _ => ?_)
theorem tree_Get.mono : ∀ a0 a1 k, LeO (tree_Get.f k a0 a1) (tree_Get.f (k + 1) a0 a1) := by
 intro a0 a1 k
 have ih0 := tree_Get.mono_l k
 unfold tree_Get.f
 repeat' first
  |(with_reducible exact ih0 _ _ _ _)
  |(with_reducible exact LeO.refl _)
  |(with_reducible exact LeO.none _)
  |(with_reducible refine LeO.ite ?_ ?_)
  |(with_reducible refine LeO.bind ?_ (fun _ => ?_))
  |exact ih0 _ _ _ _
  |exact LeO.none _
  |refine LeO.ite ?_ ?_
  |refine LeO.bind ?_ (fun _ => ?_)
set_option maxHeartbeats 4000000 in
set_option maxRecDepth 100000 in
theorem tree_Get.calls (k : Nat) (A0 : Option Addr) (c0 : Nat) (l0 : List (S45)) (a1 : ByteArray) (r1 : Int) (r2 : Bool) (w : World) (hr0 : Kd.C k45 w A0 l0.length l0) (hc0 : l0.length ≤ c0) (h : tree_Get.f k l0 a1 = some (r1, r2)) :
  Calls Tryd.prog 14 #[.slice A0 l0.length c0,.string a1] w fun e w' => e = .returned (.tuple #[.int .i64 r1,.bool r2]) ∧ Below w.heap.size w w' := by
 have hu45 := Tryd.underlying45
 have HR0 := Aside0.mk hr0
 have HC0 := Aside0.mk hc0
 clear hr0 hc0
 have HB := Aside0.mk (Below.refl w.heap.size w)
 have H : (tree_Get.l0 k a1 l0 (l0.length : Int) 0) = some (r1,r2) := h
 clear h
 have H' := Aside0.mk H
 clear H
 go_enter Tryd.func14,Tryd.ntmps14
 go_wp2
 go_loopg [10] k (fun kq v10 w' => ∃ (x10_1 : Int),v10 = .int .i64 x10_1 ∧ Aside0 (tree_Get.l0 kq a1 l0 (l0.length : Int) x10_1 = some (r1,r2)) ∧ Aside0 (kq ≤ k) ∧ Aside0 (Below w.heap.size w w'))
 case atStart => exact ⟨(0),(by first|rfl|(simp;done)|(simp [*];done)),H',⟨Nat.le_refl _⟩,⟨bM HB.out⟩⟩
 case round =>
  clear H'
  try clear c1
  try clear p2
  obtain ⟨x10_1,rfl,HA,HK1,HB⟩ := hrel
  cases gk with
 |zero => exact absurd HA.out (by simp [tree_Get.l0])
 |succ k1 =>
   have H := HA.out
   clear HA
   simp only [tree_Get.l0] at H
   by_cases c3 : x10_1 < (l0.length : Int)
   ·rw [if_pos c3] at H
    have c3b0 : decide (x10_1 < (l0.length : Int)) = true := decide_eq_true c3
    clear c3
    by_cases c4 : 0 ≤ x10_1
    ·rw [if_pos c4] at H
     have c4b0 : decide (0 ≤ x10_1) = true := decide_eq_true c4
     clear c4
     by_cases c5 : x10_1 < (l0.length : Int)
     ·rw [if_pos c5] at H
      have c5b0 : decide (x10_1 < (l0.length : Int)) = true := decide_eq_true c5
      clear c5
      by_cases c6 : ((rd_T45 l0 x10_1).f0).toList = a1.toList
      ·rw [if_pos c6] at H
       have c6b0 : (((rd_T45 l0 x10_1).f0).toList == a1.toList) = true := beq_iff_eq.mpr c6
       have c6b1 : (((rd_T45 l0 x10_1).f0).toList != a1.toList) = false := bne_eq_false_iff_eq.mpr c6
       clear c6
       simp only [Option.some.injEq,Prod.mk.injEq] at H
       obtain ⟨rfl,rfl⟩ := H
       have p145 : 0 ≤ (x10_1 : Int) := of_decide_eq_true (by first|(with_reducible assumption)|assumption)
       have q145 : x10_1 < (l0.length : Int) := of_decide_eq_true (by first|(with_reducible assumption)|assumption)
       obtain ⟨ad145,e145,hx145_0,hx145_1⟩ := at_T45 HR0.out x10_1 p145 q145
       cases e145
       replace hx145_0 := (HB.out.cell (World.block_lt_of_cell? w _ hx145_0)).trans hx145_0
       replace hx145_1 := (HB.out.cell (World.block_lt_of_cell? w _ hx145_1)).trans hx145_1
       replace p145 := eq_true p145
       replace q145 := eq_true q145
       go_wp2_with (first|((with_reducible refine gate_dst (N := 7) rfl ?_);refine box_event ?hg (N := 7) ?hd (cs := #[.string (⟨#[]⟩ : ByteArray),.int .i64 0]) (t := 45) ?hr ?_;(case hd => rfl);(case hg => rfl);(case hr => first|(go_simp;done)|(go_simp;rfl));intro gb146 hg w7 hbox hb;have n0_ := Aside0.mk (below_step (bM HB.out) hb);have n1_ := Aside0.mk (hbox);have n2_ := Aside0.mk ((by rw [hg];exact (below_size (bM HB.out)) : w.heap.size ≤ gb146));have n3_ := Aside0.mk ((by rw [hg];exact (below_size (bM HB.out)) : w.heap.size ≤ gb146));clear HB;have HB := n0_;have BK146 := n1_;have GW146 := n2_;have GE146 := n3_;clear n0_ n1_ n2_ n3_;clear hb hbox hg;have hcz8_0 : w7.cell? ⟨gb146,0,none⟩ = some (.string (⟨#[]⟩ : ByteArray)) := (blk_cell BK146.out 0).trans rfl;have hcz8_1 : w7.cell? ⟨gb146,1,none⟩ = some (.int .i64 0) := (blk_cell BK146.out 1).trans rfl;have hfz8_0 := blk_frozen BK146.out 0;have hfz8_1 := blk_frozen BK146.out 1))
       go_ret2
       exact ⟨by first|rfl|(simp [errW_none,errW_some] <;> rfl)|(simp [*,errW_none,errW_some] <;> rfl),by repeat (first|(with_reducible first|exact HB.out|apply below_alloc|apply pw_below_drewN|apply below_drew1|refine below_set ?_ GE146.out)|exact HB.out)⟩
      ·rw [if_neg c6] at H
       have c6b0 : (((rd_T45 l0 x10_1).f0).toList == a1.toList) = false := beq_eq_false_iff_ne.mpr c6
       have c6b1 : (((rd_T45 l0 x10_1).f0).toList != a1.toList) = true := bne_iff_ne.mpr c6
       have H' := Aside0.mk H
       clear H
       have p145 : 0 ≤ (x10_1 : Int) := of_decide_eq_true (by first|(with_reducible assumption)|assumption)
       have q145 : x10_1 < (l0.length : Int) := of_decide_eq_true (by first|(with_reducible assumption)|assumption)
       obtain ⟨ad145,e145,hx145_0,hx145_1⟩ := at_T45 HR0.out x10_1 p145 q145
       cases e145
       replace hx145_0 := (HB.out.cell (World.block_lt_of_cell? w _ hx145_0)).trans hx145_0
       replace hx145_1 := (HB.out.cell (World.block_lt_of_cell? w _ hx145_1)).trans hx145_1
       replace p145 := eq_true p145
       replace q145 := eq_true q145
       go_wp2_with (first|((with_reducible refine gate_dst (N := 7) rfl ?_);refine box_event ?hg (N := 7) ?hd (cs := #[.string (⟨#[]⟩ : ByteArray),.int .i64 0]) (t := 45) ?hr ?_;(case hd => rfl);(case hg => rfl);(case hr => first|(go_simp;done)|(go_simp;rfl));intro gb146 hg w9 hbox hb;have n0_ := Aside0.mk (below_step (bM HB.out) hb);have n1_ := Aside0.mk (hbox);have n2_ := Aside0.mk ((by rw [hg];exact (below_size (bM HB.out)) : w.heap.size ≤ gb146));have n3_ := Aside0.mk ((by rw [hg];exact (below_size (bM HB.out)) : w.heap.size ≤ gb146));clear HB;have HB := n0_;have BK146 := n1_;have GW146 := n2_;have GE146 := n3_;clear n0_ n1_ n2_ n3_;clear hb hbox hg;have hcz10_0 : w9.cell? ⟨gb146,0,none⟩ = some (.string (⟨#[]⟩ : ByteArray)) := (blk_cell BK146.out 0).trans rfl;have hcz10_1 : w9.cell? ⟨gb146,1,none⟩ = some (.int .i64 0) := (blk_cell BK146.out 1).trans rfl;have hfz10_0 := blk_frozen BK146.out 0;have hfz10_1 := blk_frozen BK146.out 1))
       go_roundg k1
       case measure => have := HK1.out;omega
       case rel => exact ⟨(wrap64 (x10_1 + 1)),(by first|rfl|(simp;done)|(simp [*];done)),H',⟨by have := HK1.out;omega⟩,⟨by repeat (first|(with_reducible first|exact HB.out|apply below_alloc|apply pw_below_drewN|apply below_drew1|refine below_set ?_ GE146.out)|exact HB.out)⟩⟩
     ·rw [if_neg c5] at H
      exact absurd H (by simp)
    ·rw [if_neg c4] at H
     exact absurd H (by simp)
   ·rw [if_neg c3] at H
    have c3b0 : decide (x10_1 < (l0.length : Int)) = false := decide_eq_false c3
    clear c3
    simp only [Option.some.injEq,Prod.mk.injEq] at H
    obtain ⟨rfl,rfl⟩ := H
    go_wp2
    go_ret2
    exact ⟨by first|rfl|(simp [errW_none,errW_some] <;> rfl)|(simp [*,errW_none,errW_some] <;> rfl),bM HB.out⟩

end Go.Proofs.YtpnhamfodjfacaaDoor.M
