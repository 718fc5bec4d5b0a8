/- Maps from numbers to whatever: what their blocks hold, as a list of entries. -/
import Derived.Test.YtgadbpljlpclnaaGreatDoorProg
import Derived.RowKit
import Derived.RowKit3
import Derived.WalkKit
import Derived.KernelRfl
import Derived.Below
import Derived.Maps.OwnSet
import Derived.Maps.OwnOps
import Derived.Maps.RangeWalk
import Derived.Sort.MapsRangeIn
import Derived.Test.YtgadbpljlpclnaaGreatDoorWWords
namespace Go.Proofs.YtgadbpljlpclnaaGreatDoor.Q
open Go Go.RowKit Go.Proofs.YtgadbpljlpclnaaGreatDoorW.PrintWords
set_option linter.unusedVariables false
open Go.Maps
abbrev MV := List (Int × Value)
def vget : MV → Int → Option Value
  | [], _ => none
  | p :: m, x => if p.1 = x then some p.2 else vget m x
def vput (m : MV) (x : Int) (v : Value) : MV := (x, v) :: m
theorem vget_put (m : MV) (x y : Int) (v : Value) : vget (vput m x v) y = if x = y then some v else vget m y := rfl
def kI (x : Int) : Lit := .int .i64 x
theorem kI_inj {x y : Int} (h : kI x = kI y) : x = y := by injection h
theorem kI_key (x : Int) : WideAt.IsKeyLit (kI x) := trivial
/-- How an element reads: as itself. -/
def asHeld (v : Value) : Option (DataW Value × List MemPlace) := some (.held v, [])
def RepV (D : DataW Value) (m : MV) (z : Value) : Prop := ∀ x : Int, Maps.has D (kI x) = (vget m x).isSome ∧ D.atKey (kI x) (.held z) = .held ((vget m x).getD z)
theorem RepV.empty (z : Value) : RepV (.map []) [] z := fun _ => ⟨rfl, rfl⟩
theorem RepV.put {D : DataW Value} {m : MV} {z : Value} (h : RepV D m z) (hD : IsMap D) (x : Int) (v : Value) : RepV (D.put (kI x) (.held v)) (vput m x v) z := by
  intro y
  rw [vget_put]
  by_cases hst : x = y
  · subst hst
    rw [if_pos rfl]
    exact ⟨has_put_same hD (kI_key x) _, atKey_put_same hD (kI_key x) _ _⟩
  · rw [if_neg hst]
    have hne : kI y ≠ kI x := fun e => hst (kI_inj e).symm
    exact ⟨(has_put_other hne _).trans (h y).1, (atKey_put_other hne _ _).trans (h y).2⟩
/-- Block b is the map m, of at most n entries; what is not there reads as z. -/
def VM (P : Program) (ks : TypeId) (z : Value) (w : World) (b n : Nat) (m : MV) : Prop := ∃ D : DataW Value, w.ownsMap P ks asHeld b n D ∧ RepV D m z
section
variable {P : Program} {ks : TypeId} {z : Value} {w w1 : World} {b n : Nat} {m : MV}
theorem VM.lt (h : VM P ks z w b n m) : b < w.heap.size := let ⟨_, h1, _⟩ := h; h1.lt
theorem VM.grown (h : VM P ks z w b n m) {row : Option Nat} (hg : w.grownBy w1 row) (hne : some b ≠ row) : VM P ks z w1 b n m := by
  obtain ⟨D, h1, h2⟩ := h
  exact ⟨D, h1.kept hg hne, h2⟩
theorem VM.below (h : VM P ks z w b n m) (hb : Below w.heap.size w w1) : VM P ks z w1 b n m := h.grown (grown_of_below hb none) (by simp)
theorem VM.far (h : VM P ks z w b n m) {a : Addr} (ha : b ≠ a.block) (u : Value) : VM P ks z (w.setCell a u) b n m := by
  obtain ⟨D, h1, h2⟩ := h
  exact ⟨D, h1.setCell ha u, h2⟩
theorem VM.drew (h : VM P ks z w b n m) : VM P ks z w.drew b n m := h
theorem VM.made (w : World) : VM P ks z (w.alloc (.map #[] 0)) w.heap.size 0 [] := ⟨_, World.ownsMap_made w P ks _, RepV.empty z⟩
theorem VM.mono (h : VM P ks z w b n m) {n' : Nat} (hn : n ≤ n') : VM P ks z w b n' m := let ⟨D, h1, h2⟩ := h; ⟨D, h1.mono hn, h2⟩
end
section
variable {P : Program} (w : World) {ops : Array Oper} {rest : List Oper} {o : Oper} {a : Act} {Q : Exit → Act → World → Prop}
/-- 'm[k]'. -/
theorem wpList_lookup_V (hg : o.guard = none) (m x : Operand) (t : TypeId) (hop : o.op = Op.lookup t m x false)
    (k e : TypeId) (K : Keyed P k) (ht : P.underlying t = some (.map k e)) {z : Value} (hz : (zeroValue e).run P w = .ok z w) (b n : Nat) (s : MV)
    (hm : a.eval m = .map (some b)) (hown : VM P k z w b n s) (key : Int) (hx : a.eval x = .int .i64 key) (hkey : keyOf P k (.int .i64 key) = some (kI key))
    (hK : wpList P ops Q rest (a.put o.dst ((vget s key).getD z)) w) :
    wpList P ops Q (o :: rest) a w := by
  refine wpList_plain hg fun K' hK' => ?_
  obtain ⟨D, h1, h2⟩ := hown
  obtain ⟨v, ps, hrun, hv⟩ := h1.lookup K ht hz rfl hkey
  have h3 : DataW.held v = .held ((vget s key).getD z) := (congrArg Prod.fst (Option.some.inj hv)).trans (h2 key).2
  injection h3 with h3
  subst h3
  unfold Oper.wp
  simp [execOp, hop, hm, hx, hrun, Result.andThen]
  exact hK' _ _ hK
/-- 'v, ok := m[k]'. -/
theorem wpList_lookup_ok_V (hg : o.guard = none) (m x : Operand) (t : TypeId) (hop : o.op = Op.lookup t m x true)
    (k e : TypeId) (K : Keyed P k) (ht : P.underlying t = some (.map k e)) {z : Value} (hz : (zeroValue e).run P w = .ok z w) (b n : Nat) (s : MV)
    (hm : a.eval m = .map (some b)) (hown : VM P k z w b n s) (key : Int) (hx : a.eval x = .int .i64 key) (hkey : keyOf P k (.int .i64 key) = some (kI key))
    (hK : wpList P ops Q rest (a.put o.dst (.tuple #[(vget s key).getD z, .bool (vget s key).isSome])) w) :
    wpList P ops Q (o :: rest) a w := by
  obtain ⟨D, h1, h2⟩ := hown
  refine wpList_lookup_own_ok w hg m x t hop k e K ht asHeld hz (.held z) [] rfl b n D hm h1 _ _ hx hkey (fun v ps hv => ?_)
  have h3 : DataW.held v = .held ((vget s key).getD z) := (congrArg Prod.fst (Option.some.inj hv)).trans (h2 key).2
  injection h3 with h3
  subst h3
  rw [(h2 key).1]
  exact hK
/-- 'm[k] = v'. -/
theorem wpList_update_V (hg : o.guard = none) (m x v : Operand) (t : TypeId) (hop : o.op = Op.mapUpdate t m x v)
    (k e : TypeId) (K : Keyed P k) (ht : P.underlying t = some (.map k e)) {z : Value} (b n : Nat) (s : MV)
    (hm : a.eval m = .map (some b)) (hown : VM P k z w b n s) (hn : n < maxLen) (key : Int) (val : Value) (hx : a.eval x = .int .i64 key) (hv : a.eval v = val) (hkey : keyOf P k (.int .i64 key) = some (kI key))
    (hK : ∀ w', VM P k z w' b (n + 1) (vput s key val) → w.grownBy w' (some b) → wpList P ops Q rest (a.put o.dst undef) w') :
    wpList P ops Q (o :: rest) a w := by
  obtain ⟨D, h1, h2⟩ := hown
  exact wpList_mapUpdate_own w hg m x v t hop k e K ht asHeld b n D hm h1 hn _ _ _ hx hv hkey _ _ rfl (fun w' ho hgr => hK w' ⟨_, ho, h2.put h1.isMap key val⟩ hgr)
end
def okV (x : Int) : Bool := decide (-9223372036854775808 ≤ x) && decide (x ≤ 9223372036854775807)
theorem lawI : Keyed Tryz.prog 3 := int_keyed Tryz.underlying3
theorem keyI_ok {x : Int} (h : okV x = true) : keyOf Tryz.prog 3 (.int .i64 x) = some (kI x) := keyOf_int_mk Tryz.underlying3 (by
  simp only [okV, Bool.and_eq_true, decide_eq_true_eq] at h
  simpa [Lit.wf, IntKind.min, IntKind.max, IntKind.signed, IntKind.bits] using h)
theorem w_incV_ (i : Nat) (h : i ≤ 1000000000000) : wrap64 ((i : Int) + 1) = ((i + 1 : Nat) : Int) := by unfold wrap64; omega
/-! ### A map from numbers to true, as the list of its keys -/
def bI0 : DataW Unit := .lit (.bool false)
def RepT (D : DataW Unit) (m : List Int) : Prop := ∀ s : Int, Maps.has D (kI s) = decide (s ∈ m) ∧ D.atKey (kI s) bI0 = .lit (.bool (decide (s ∈ m)))
theorem RepT.empty : RepT (.map []) [] := fun _ => ⟨rfl, rfl⟩
theorem RepT.put {D : DataW Unit} {m : List Int} (h : RepT D m) (hD : IsMap D) (s : Int) : RepT (D.put (kI s) (.lit (.bool true))) (s :: m) := by
  intro t
  by_cases hst : s = t
  · subst hst
    rw [decide_eq_true (List.mem_cons_self)]
    exact ⟨has_put_same hD (kI_key s) _, atKey_put_same hD (kI_key s) _ _⟩
  · have hne : kI t ≠ kI s := fun e => hst (kI_inj e).symm
    have hm : decide (t ∈ s :: m) = decide (t ∈ m) := decide_eq_decide.2 ⟨fun h => (List.mem_cons.1 h).resolve_left (fun e => hst e.symm), List.mem_cons_of_mem _⟩
    rw [hm]
    exact ⟨(has_put_other hne _).trans (h t).1, (atKey_put_other hne _ _).trans (h t).2⟩
/-- Block b is the set m, of at most n entries. -/
def ST (P : Program) (ks es : TypeId) (w : World) (b n : Nat) (m : List Int) : Prop := ∃ D : DataW Unit, w.ownsMap P ks (plainElem P es) b n D ∧ RepT D m
section
variable {P : Program} {ks es : TypeId} {w w1 : World} {b n : Nat} {m : List Int}
theorem ST.lt (h : ST P ks es w b n m) : b < w.heap.size := let ⟨_, h1, _⟩ := h; h1.lt
theorem ST.below (h : ST P ks es w b n m) (hb : Below w.heap.size w w1) : ST P ks es w1 b n m := by
  obtain ⟨D, h1, h2⟩ := h
  exact ⟨D, h1.kept (grown_of_below hb none) (by simp), h2⟩
theorem ST.grown (h : ST P ks es w b n m) {row : Option Nat} (hg : w.grownBy w1 row) (hne : some b ≠ row) : ST P ks es w1 b n m := by
  obtain ⟨D, h1, h2⟩ := h
  exact ⟨D, h1.kept hg hne, h2⟩
theorem ST.far (h : ST P ks es w b n m) {a : Addr} (ha : b ≠ a.block) (u : Value) : ST P ks es (w.setCell a u) b n m := by
  obtain ⟨D, h1, h2⟩ := h
  exact ⟨D, h1.setCell ha u, h2⟩
theorem ST.made (w : World) : ST P ks es (w.alloc (.map #[] 0)) w.heap.size 0 [] := ⟨_, World.ownsMap_made w P ks _, RepT.empty⟩
theorem ST.mono (h : ST P ks es w b n m) {n' : Nat} (hn : n ≤ n') : ST P ks es w b n' m := let ⟨D, h1, h2⟩ := h; ⟨D, h1.mono hn, h2⟩
end
theorem plainElem_bool_invI {H : Type} {P : Program} {e : TypeId} (he : P.underlying e = some .bool) {v : Value} {z : DataW H × List MemPlace} (h : plainElem (H := H) P e v = some z) : ∃ x : Bool, v = .bool x ∧ z = (.lit (.bool x), []) := by
  cases v with
  | bool x => rw [plainElem_bool he] at h; exact ⟨x, rfl, (Option.some.inj h).symm⟩
  | _ => simp [plainElem, he] at h
/-- 'm[k]' of a set. -/
theorem wpList_lookup_setI {P : Program} (w : World) {ops : Array Oper} {rest : List Oper} {o : Oper} {a : Act} {Q : Exit → Act → World → Prop}
    (hg : o.guard = none) (m x : Operand) (t : TypeId) (hop : o.op = Op.lookup t m x false)
    (k e : TypeId) (K : Keyed P k) (ht : P.underlying t = some (.map k e)) (he : P.underlying e = some .bool) (hz : (zeroValue e).run P w = .ok (.bool false) w) (b n : Nat) (s : List Int)
    (hm : a.eval m = .map (some b)) (hown : ST P k e w b n s) (key : Int) (hx : a.eval x = .int .i64 key) (hkey : keyOf P k (.int .i64 key) = some (kI key))
    (hK : wpList P ops Q rest (a.put o.dst (.bool (decide (key ∈ s)))) w) :
    wpList P ops Q (o :: rest) a w := by
  refine wpList_plain hg fun K' hK' => ?_
  obtain ⟨D, h1, h2⟩ := hown
  obtain ⟨v, ps, hrun, hv⟩ := h1.lookup K ht hz (plainElem_bool he false) hkey
  obtain ⟨c, rfl, hc⟩ := plainElem_bool_invI he hv
  have h3 := (congrArg Prod.fst hc).symm.trans (h2 key).2
  have h4 : c = decide (key ∈ s) := by
    dsimp only at h3
    injection h3 with h3
    injection h3
  subst h4
  unfold Oper.wp
  simp [execOp, hop, hm, hx, hrun, Result.andThen]
  exact hK' _ _ hK
theorem zeroB (w : World) : (zeroValue 4).run Tryz.prog w = .ok (.bool false) w := Tryz.zeroValue4 w
end Go.Proofs.YtgadbpljlpclnaaGreatDoor.Q
