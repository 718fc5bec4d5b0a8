/- Maps from strings to numbers, and to true: what their blocks hold. -/
import Derived.Test.YtobdkgoapcbipaaGreatDoorProg
import Derived.RowKit
import Derived.RowKit3
import Derived.WalkKit
import Derived.KernelRfl
import Derived.Below
import Derived.Maps.OwnSet
import Derived.Maps.OwnOps
import Derived.Maps.RangeWalk
import Derived.StringKeys
import Derived.Sort.MapsRangeIn
import Derived.Test.YtobdkgoapcbipaaGreatDoorWWords
namespace Go.Proofs.YtobdkgoapcbipaaGreatDoor.Q
open Go Go.RowKit Go.Proofs.YtobdkgoapcbipaaGreatDoorW.PrintWords
set_option linter.unusedVariables false
open Go.Maps
/-! ### A map from strings to numbers, as a list of its entries -/
abbrev MP := List (ByteArray × Int)
def mget : MP → ByteArray → Option Int
  | [], _ => none
  | p :: m, s => if p.1 = s then some p.2 else mget m s
def mput (m : MP) (s : ByteArray) (v : Int) : MP := (s, v) :: m
def mdel (m : MP) (s : ByteArray) : MP := m.filter fun p => decide (p.1 ≠ s)
theorem mget_put (m : MP) (s t : ByteArray) (v : Int) : mget (mput m s v) t = if s = t then some v else mget m t := rfl
theorem mget_del (m : MP) (s t : ByteArray) : mget (mdel m s) t = if s = t then none else mget m t := by
  induction m with
  | nil => simp [mdel, mget]
  | cons p m ih =>
    by_cases h : p.1 = s
    · rw [show mdel (p :: m) s = mdel m s from List.filter_cons_of_neg (by simpa using h), ih, mget]
      by_cases h2 : s = t
      · rw [if_pos h2, if_pos h2]
      · rw [if_neg h2, if_neg h2, if_neg (by rw [h]; exact h2)]
    · rw [show mdel (p :: m) s = p :: mdel m s from List.filter_cons_of_pos (by simpa using h), mget, ih, mget]
      by_cases h2 : s = t
      · rw [if_pos h2, if_neg (by rw [← h2]; exact h), if_pos h2]
      · rw [if_neg h2]; simp [h2]
def kS (s : ByteArray) : Lit := .string s.data.toList
theorem kS_inj {s t : ByteArray} (h : kS s = kS t) : s = t := by
  injection h with h
  cases s; cases t
  congr 1
  exact Array.toList_inj.1 h
theorem kS_key (s : ByteArray) : WideAt.IsKeyLit (kS s) := trivial
def i0 : DataW Unit := .lit (.int .i64 0)
def Rep (D : DataW Unit) (m : MP) : Prop := ∀ s : ByteArray, Maps.has D (kS s) = (mget m s).isSome ∧ D.atKey (kS s) i0 = .lit (.int .i64 ((mget m s).getD 0))
theorem Rep.empty : Rep (.map []) [] := fun _ => ⟨rfl, rfl⟩
theorem Rep.put {D : DataW Unit} {m : MP} (h : Rep D m) (hD : IsMap D) (s : ByteArray) (v : Int) : Rep (D.put (kS s) (.lit (.int .i64 v))) (mput m s v) := by
  intro t
  rw [mget_put]
  by_cases hst : s = t
  · subst hst
    rw [if_pos rfl]
    exact ⟨has_put_same hD (kS_key s) _, atKey_put_same hD (kS_key s) _ _⟩
  · rw [if_neg hst]
    have hne : kS t ≠ kS s := fun e => hst (kS_inj e).symm
    exact ⟨(has_put_other hne _).trans (h t).1, (atKey_put_other hne _ _).trans (h t).2⟩
theorem Rep.del {D : DataW Unit} {m : MP} (h : Rep D m) (s : ByteArray) : Rep (D.del (kS s)) (mdel m s) := by
  intro t
  rw [mget_del]
  by_cases hst : s = t
  · subst hst
    rw [if_pos rfl]
    exact ⟨has_del_same, atKey_del_same _⟩
  · rw [if_neg hst]
    have hne : kS t ≠ kS s := fun e => hst (kS_inj e).symm
    exact ⟨(has_del_other hne).trans (h t).1, (atKey_del_other hne _).trans (h t).2⟩
/-- Block b is the map m, of at most n entries. -/
def SM (P : Program) (ks es : TypeId) (w : World) (b n : Nat) (m : MP) : Prop := ∃ D : DataW Unit, w.ownsMap P ks (plainElem P es) b n D ∧ Rep D m
section
variable {P : Program} {ks es : TypeId} {w w1 : World} {b n : Nat} {m : MP}
theorem SM.lt (h : SM P ks es w b n m) : b < w.heap.size := let ⟨_, h1, _⟩ := h; h1.lt
theorem SM.below (h : SM P ks es w b n m) (hb : Below w.heap.size w w1) : SM P ks es w1 b n m := by
  obtain ⟨D, h1, h2⟩ := h
  exact ⟨D, h1.kept (grown_of_below hb none) (by simp), h2⟩
theorem SM.grown (h : SM P ks es w b n m) {row : Option Nat} (hg : w.grownBy w1 row) (hne : some b ≠ row) : SM P ks es w1 b n m := by
  obtain ⟨D, h1, h2⟩ := h
  exact ⟨D, h1.kept hg hne, h2⟩
theorem SM.far (h : SM P ks es w b n m) {a : Addr} (ha : b ≠ a.block) (u : Value) : SM P ks es (w.setCell a u) b n m := by
  obtain ⟨D, h1, h2⟩ := h
  exact ⟨D, h1.setCell ha u, h2⟩
theorem SM.made (w : World) : SM P ks es (w.alloc (.map #[] 0)) w.heap.size 0 [] := ⟨_, World.ownsMap_made w P ks _, Rep.empty⟩
theorem SM.mono (h : SM P ks es w b n m) {n' : Nat} (hn : n ≤ n') : SM P ks es w b n' m := let ⟨D, h1, h2⟩ := h; ⟨D, h1.mono hn, h2⟩
end
theorem law9 : Keyed Tryz.prog 9 := string_keyed Tryz.underlying9
theorem zero3 (w : World) : (zeroValue 3).run Tryz.prog w = .ok (.int .i64 0) w := Tryz.zeroValue3 w
/-- Paths and numbers that a map takes. -/
def okS (s : ByteArray) : Bool := decide (s.size ≤ 140737488351232)
def okI (x : Int) : Bool := decide (-9223372036854775808 ≤ x) && decide (x ≤ 9223372036854775807)
theorem key_ok {s : ByteArray} (h : okS s = true) : keyOf Tryz.prog 9 (.string s) = some (kS s) := Go.WideMaps.keyOf_string_mk Tryz.underlying9 (by have := of_decide_eq_true h; unfold maxLen; omega)
theorem val_ok {x : Int} (h : okI x = true) : plainElem (H := Unit) Tryz.prog 3 (.int .i64 x) = some (.lit (.int .i64 x), []) := plainElem_int Tryz.underlying3 (by
  simp only [okI, Bool.and_eq_true, decide_eq_true_eq] at h
  simpa [Lit.wf, IntKind.min, IntKind.max, IntKind.signed, IntKind.bits] using h)
theorem w_inc_ (i : Nat) (h : i ≤ 1000000000000) : wrap64 ((i : Int) + 1) = ((i + 1 : Nat) : Int) := by unfold wrap64; omega
/-! ### A map from strings to true, as the list of its keys -/
instance memDec_ (s : ByteArray) (m : List ByteArray) : Decidable (s ∈ m) := @List.instDecidableMemOfLawfulBEq ByteArray instBEqOfDecidableEq inferInstance s m
def b0 : DataW Unit := .lit (.bool false)
def RepB (D : DataW Unit) (m : List ByteArray) : Prop := ∀ s : ByteArray, Maps.has D (kS s) = decide (s ∈ m) ∧ D.atKey (kS s) b0 = .lit (.bool (decide (s ∈ m)))
theorem RepB.empty : RepB (.map []) [] := fun _ => ⟨rfl, rfl⟩
theorem RepB.put {D : DataW Unit} {m : List ByteArray} (h : RepB D m) (hD : IsMap D) (s : ByteArray) : RepB (D.put (kS s) (.lit (.bool true))) (s :: m) := by
  intro t
  by_cases hst : s = t
  · subst hst
    rw [decide_eq_true (List.mem_cons_self)]
    exact ⟨has_put_same hD (kS_key s) _, atKey_put_same hD (kS_key s) _ _⟩
  · have hne : kS t ≠ kS s := fun e => hst (kS_inj e).symm
    have hm : decide (t ∈ s :: m) = decide (t ∈ m) := decide_eq_decide.2 ⟨fun h => (List.mem_cons.1 h).resolve_left (fun e => hst e.symm), List.mem_cons_of_mem _⟩
    rw [hm]
    exact ⟨(has_put_other hne _).trans (h t).1, (atKey_put_other hne _ _).trans (h t).2⟩
/-- Block b is the set m, of at most n entries. -/
def SB (P : Program) (ks es : TypeId) (w : World) (b n : Nat) (m : List ByteArray) : Prop := ∃ D : DataW Unit, w.ownsMap P ks (plainElem P es) b n D ∧ RepB D m
section
variable {P : Program} {ks es : TypeId} {w w1 : World} {b n : Nat} {m : List ByteArray}
theorem SB.lt (h : SB P ks es w b n m) : b < w.heap.size := let ⟨_, h1, _⟩ := h; h1.lt
theorem SB.below (h : SB P ks es w b n m) (hb : Below w.heap.size w w1) : SB P ks es w1 b n m := by
  obtain ⟨D, h1, h2⟩ := h
  exact ⟨D, h1.kept (grown_of_below hb none) (by simp), h2⟩
theorem SB.grown (h : SB P ks es w b n m) {row : Option Nat} (hg : w.grownBy w1 row) (hne : some b ≠ row) : SB P ks es w1 b n m := by
  obtain ⟨D, h1, h2⟩ := h
  exact ⟨D, h1.kept hg hne, h2⟩
theorem SB.far (h : SB P ks es w b n m) {a : Addr} (ha : b ≠ a.block) (u : Value) : SB P ks es (w.setCell a u) b n m := by
  obtain ⟨D, h1, h2⟩ := h
  exact ⟨D, h1.setCell ha u, h2⟩
theorem SB.made (w : World) : SB P ks es (w.alloc (.map #[] 0)) w.heap.size 0 [] := ⟨_, World.ownsMap_made w P ks _, RepB.empty⟩
theorem SB.mono (h : SB P ks es w b n m) {n' : Nat} (hn : n ≤ n') : SB P ks es w b n' m := let ⟨D, h1, h2⟩ := h; ⟨D, h1.mono hn, h2⟩
end
theorem plainElem_bool_inv_ {H : Type} {P : Program} {e : TypeId} (he : P.underlying e = some .bool) {v : Value} {z : DataW H × List MemPlace} (h : plainElem (H := H) P e v = some z) : ∃ x : Bool, v = .bool x ∧ z = (.lit (.bool x), []) := by
  cases v with
  | bool x => rw [plainElem_bool he] at h; exact ⟨x, rfl, (Option.some.inj h).symm⟩
  | _ => simp [plainElem, he] at h
/-- 'm[k]' of a set. -/
theorem wpList_lookup_set {P : Program} (w : World) {ops : Array Oper} {rest : List Oper} {o : Oper} {a : Act} {Q : Exit → Act → World → Prop}
    (hg : o.guard = none) (m x : Operand) (t : TypeId) (hop : o.op = Op.lookup t m x false)
    (k e : TypeId) (K : Keyed P k) (ht : P.underlying t = some (.map k e)) (he : P.underlying e = some .bool) (hz : (zeroValue e).run P w = .ok (.bool false) w) (b n : Nat) (s : List ByteArray)
    (hm : a.eval m = .map (some b)) (hown : SB P k e w b n s) (key : ByteArray) (hx : a.eval x = .string key) (hkey : keyOf P k (.string key) = some (kS key))
    (hK : wpList P ops Q rest (a.put o.dst (.bool (decide (key ∈ s)))) w) :
    wpList P ops Q (o :: rest) a w := by
  refine wpList_plain hg fun K' hK' => ?_
  obtain ⟨D, h1, h2⟩ := hown
  obtain ⟨v, ps, hrun, hv⟩ := h1.lookup K ht hz (plainElem_bool he false) hkey
  obtain ⟨c, rfl, hc⟩ := plainElem_bool_inv_ he hv
  have h3 := (congrArg Prod.fst hc).symm.trans (h2 key).2
  have h4 : c = decide (key ∈ s) := by
    dsimp only at h3
    injection h3 with h3
    injection h3
  subst h4
  unfold Oper.wp
  simp [execOp, hop, hm, hx, hrun, Result.andThen]
  exact hK' _ _ hK
theorem zero4 (w : World) : (zeroValue 4).run Tryz.prog w = .ok (.bool false) w := Tryz.zeroValue4 w
end Go.Proofs.YtobdkgoapcbipaaGreatDoor.Q
