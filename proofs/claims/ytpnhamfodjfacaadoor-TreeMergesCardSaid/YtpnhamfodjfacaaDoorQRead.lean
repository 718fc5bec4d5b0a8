/- Arguments of any plain kind are read: whole numbers, bools, strings, slices and structs of such, nested as they may be. -/
import Derived.Test.YtpnhamfodjfacaaDoorMx0
import Derived.Test.YtpnhamfodjfacaaDoorRows
import Derived.SizedLaws
import Derived.ChangeSlices
import Derived.ChangeArms
import Derived.DataReads
import Derived.Deep.Slices
import Derived.OpenShut
namespace Go.Proofs.YtpnhamfodjfacaaDoor.Q
open Go.ChangeShapes Go.WideShapes Go.RowKit Go.Proofs.YtpnhamfodjfacaaDoorW.PrintWords Go.Proofs.YtpnhamfodjfacaaDoor
set_option linter.unusedVariables false
set_option linter.unusedSimpArgs false

/-- What fits type t reads as a value of kind d, and the value is good. -/
def Rd (P : Program) {α : Type} (d : Kd α) (t : TypeId) (good : Nat → α → Prop) : Prop :=
  ∀ (H : Type) (enc : TypeId × Value → H) (w : World) (fuel : Nat) (cs : List Value) (x : DataW H × List MemPlace),
    DataW.trod enc P w 0 (fun _ => true) true fuel t cs = some x → (∀ n ∈ x.1.weights P t, n ≤ reachBytes) → ∀ U, Rows.uptoBulk x.1 ≤ U → ∃ a, d.K w a cs ∧ good U a
theorem Rd.int {P : Program} {t : TypeId} {k : IntKind} (hu : P.underlying t = some (.int k)) : Rd P (Kd.int k) t (fun _ n => (Lit.int k n).wf = true) := by
  intro H enc w fuel cs x h _ U _
  obtain ⟨n, rfl, _, hw⟩ := DataW.trod_int hu h
  exact ⟨n, rfl, hw⟩
theorem Rd.bool {P : Program} {t : TypeId} (hu : P.underlying t = some .bool) : Rd P Kd.bool t (fun _ _ => True) := by
  intro H enc w fuel cs x h _ U _
  obtain ⟨b, rfl, _⟩ := DataW.trod_bool hu h
  exact ⟨b, rfl, trivial⟩
theorem Rd.string {P : Program} {t : TypeId} (hu : P.underlying t = some .string) : Rd P Kd.string t (fun U s => s.size ≤ 140737488351232 ∧ s.size ≤ U) := by
  intro H enc w fuel cs x h hs U hU
  obtain ⟨s, rfl, rfl, _⟩ := DataW.trod_string hu h
  refine ⟨s, rfl, ?_⟩
  have h1 := hs s.data.toList.length (List.mem_singleton.2 rfl)
  have h2 : s.data.toList.length = s.size := by rw [Array.length_toList]; rfl
  have h3 : reachBytes = 140737488351232 := rfl
  simp only [Rows.uptoBulk] at hU
  omega
/-- A part's bulk is at most the whole's. -/
theorem part_le {H : Type} {d : DataW H} {l : List (DataW H)} (h : d ∈ l) : Rows.uptoBulk d ≤ Rows.uptoBulkAll l := by
  induction l with
  | nil => cases h
  | cons x r ih =>
    simp only [Rows.uptoBulkAll]
    rcases List.mem_cons.1 h with e | e
    · subst e; omega
    · have := ih e; omega
theorem one_le {H : Type} (d : DataW H) : 1 ≤ Rows.uptoBulk d := by
  cases d with
  | lit l => cases l <;> simp [Rows.uptoBulk]
  | nil => simp [Rows.uptoBulk]
  | ptr d => simp [Rows.uptoBulk]
  | slice elems spare => simp [Rows.uptoBulk]
  | agg parts => simp [Rows.uptoBulk]
  | iface t d => simp [Rows.uptoBulk]
  | map entries => simp [Rows.uptoBulk]
  | held h => simp [Rows.uptoBulk]
theorem length_le {H : Type} (l : List (DataW H)) : l.length ≤ Rows.uptoBulkAll l := by
  induction l with
  | nil => simp [Rows.uptoBulkAll]
  | cons x r ih => have := one_le x; simp only [Rows.uptoBulkAll, List.length_cons]; omega
theorem bound {H : Type} {l : List (DataW H)} (hk : Rows.uptoSmall H l = true) : Rows.uptoBulkAll l ≤ 1048576 := of_decide_eq_true hk
theorem weightsAll_mem {H : Type} {P : Program} {e : TypeId} : ∀ {l : List (DataW H)} {d : DataW H}, d ∈ l → ∀ n ∈ d.weights P e, n ∈ DataW.weightsAll P e l
  | [], _, h => by simp at h
  | a :: l, d, h => by
    intro n hn
    rw [DataW.weightsAll]
    rcases List.mem_cons.1 h with rfl | h
    · exact List.mem_append_left _ hn
    · exact List.mem_append_right _ (weightsAll_mem h n hn)
theorem Rd.slice {P : Program} {α : Type} {d : Kd α} {t e : TypeId} {B : Nat} {good : Nat → α → Prop} (hu : P.underlying t = some (.slice e)) (hc : P.cellsOf e = d.sz) (hB : P.bytesOf e = B) (hr : Rd P d e good) :
    Rd P (Kd.slice e d) t (fun U xs => xs.length * B ≤ 140737488351232 ∧ xs.length ≤ maxLen ∧ xs.length ≤ U ∧ ∀ x ∈ xs, good U x) := by
  intro H enc w fuel cs x h hs U hU
  rcases DataW.trod_slice hu h with ⟨rfl, _⟩ | ⟨a, len, cap, elems, rest, n, _, rfl, rfl, hb, hl, hm, hlen, hel, _, _⟩
  · exact ⟨[], ⟨none, 0, rfl, Nat.le_refl _, Kd.C_nil _ _⟩, by simp, by simp, by simp, by simp⟩
  · have hw1 : (elems.length + rest.length) * P.bytesOf e ≤ reachBytes := by
      refine hs _ ?_
      simp [DataW.weights, hu]
    have hbulk : ∀ y ∈ elems, Rows.uptoBulk y.1 ≤ U := by
      intro y hy
      have := part_le (List.mem_map.2 ⟨y, hy, rfl⟩ : y.1 ∈ elems.map (·.1))
      simp only [Rows.uptoBulk] at hU
      omega
    have hlenU : len ≤ U := by
      have := length_le (elems.map (·.1))
      simp only [Rows.uptoBulk] at hU
      simp at this
      omega
    have each : ∀ i, i < len → ∃ x : α, good U x ∧ ∃ c, c.length = d.sz ∧ d.K w x c ∧ ∀ j u, c[j]? = some u → w.cell? (a.add (i * d.sz + j)) = some u := by
      intro i hi
      have h1 := hel i hi
      have hy : elems[i]? = some (elems[i]'(by omega)) := List.getElem?_eq_getElem (by omega)
      rw [hy, Option.bind_eq_some_iff] at h1
      obtain ⟨c, hc1, ht⟩ := h1
      obtain ⟨_, hcl, hat⟩ := World.cells?_some hc1
      obtain ⟨x, hK, hg⟩ := hr H enc w n c _ ht (fun m hm' => hs m (by
        simp only [DataW.weights, hu, List.mem_cons, List.mem_append]
        exact .inr (.inl (weightsAll_mem (List.mem_map.2 ⟨_, List.getElem_mem _, rfl⟩) m hm')))) U (hbulk _ (List.getElem_mem _))
      refine ⟨x, hg, c, by rw [hcl, hc], hK, fun j u hj => ?_⟩
      have hjl : j < P.cellsOf e := by rw [← hcl]; exact (List.getElem?_eq_some_iff.1 hj).1
      have h2 := hat j hjl
      rw [Go.Deep.add_add, hj, hc] at h2
      exact h2
    let f : Fin len → α := fun i => Classical.choose (each i.1 i.2)
    have hf : ∀ i : Fin len, good U (f i) ∧ ∃ c, c.length = d.sz ∧ d.K w (f i) c ∧ ∀ j u, c[j]? = some u → w.cell? (a.add (i.1 * d.sz + j)) = some u := fun i => Classical.choose_spec (each i.1 i.2)
    refine ⟨List.ofFn f, ⟨some a, cap, by simp, by simpa using hl, by simp, by simp only [maxLen] at hm; simp; omega, fun _ => ⟨a, rfl, fun j p hj => ?_⟩⟩, ?_, by simp; omega, by simpa using hlenU, ?_⟩
    · obtain ⟨hjl, hjp⟩ := List.getElem?_eq_some_iff.1 hj
      simp at hjp
      subst hjp
      exact (hf ⟨j, by simpa using hjl⟩).2
    · rw [hB] at hw1
      simp only [List.length_ofFn]
      rw [← hlen]
      exact Nat.le_trans (Nat.mul_le_mul_right _ (Nat.le_add_right _ _)) (by simpa [reachBytes] using hw1)
    · intro x hx
      obtain ⟨i, hi⟩ := List.mem_ofFn.1 hx
      rw [← hi]; exact (hf i).1
/-- Cells in line that fit types in line. -/
def Fit {H : Type} (P : Program) (enc : TypeId × Value → H) (w : World) (fuel : Nat) : List TypeId → List Value → List (DataW H × List MemPlace) → Prop
  | [], cs, ys => cs = [] ∧ ys = []
  | t :: ts, cs, ys => ∃ y r, ys = y :: r ∧ DataW.trod enc P w 0 (fun _ => true) true fuel t (cs.take (P.cellsOf t)) = some y ∧ Fit P enc w fuel ts (cs.drop (P.cellsOf t)) r
def RdF (P : Program) {α : Type} (d : Kd α) (ts : List TypeId) (good : Nat → α → Prop) : Prop :=
  ∀ (H : Type) (enc : TypeId × Value → H) (w : World) (fuel : Nat) (cs : List Value) (ys : List (DataW H × List MemPlace)),
    Fit P enc w fuel ts cs ys → (∀ n ∈ DataW.weightsEach P ts (ys.map (·.1)), n ≤ reachBytes) → ∀ U, Rows.uptoBulkAll (ys.map (·.1)) ≤ U → ∃ a, d.K w a cs ∧ good U a
theorem RdF.one {P : Program} {α : Type} {d : Kd α} {t : TypeId} {good : Nat → α → Prop} (h : Rd P d t good) : RdF P d [t] good := by
  intro H enc w fuel cs ys hf hs U hU
  obtain ⟨y, r, rfl, ht, hd, rfl⟩ := hf
  have e : cs.take (P.cellsOf t) = cs := List.take_of_length_le (by have := congrArg List.length hd; simp at this; omega)
  rw [e] at ht
  exact h H enc w fuel cs y ht (fun n hn => hs n (by simp [DataW.weightsEach]; exact hn)) U (by simp only [List.map_cons, List.map_nil, Rows.uptoBulkAll] at hU; omega)
theorem RdF.cons {P : Program} {α β : Type} {a : Kd α} {b : Kd β} {t : TypeId} {ts : List TypeId} {g1 : Nat → α → Prop} {g2 : Nat → β → Prop} (h1 : Rd P a t g1) (h2 : RdF P b ts g2) : RdF P (Kd.pair a b) (t :: ts) (fun U x => g1 U x.1 ∧ g2 U x.2) := by
  intro H enc w fuel cs ys hf hs U hU
  obtain ⟨y, r, rfl, ht, hd⟩ := hf
  simp only [List.map_cons, Rows.uptoBulkAll] at hU
  obtain ⟨p, hp, gp⟩ := h1 H enc w fuel _ y ht (fun n hn => hs n (by simp [DataW.weightsEach]; exact .inl hn)) U (by omega)
  obtain ⟨q, hq, gq⟩ := h2 H enc w fuel _ r hd (fun n hn => hs n (by simp only [List.map_cons, DataW.weightsEach, List.mem_append]; exact .inr hn)) U (by omega)
  exact ⟨(p, q), ⟨_, _, (List.take_append_drop _ cs).symm, hp, hq⟩, gp, gq⟩
/-- Fields that lie one behind the other. -/
def Lay (P : Program) : Nat → List TypeId → List (Nat × TypeId)
  | _, [] => []
  | o, t :: ts => (o, t) :: Lay P (o + P.cellsOf t) ts
theorem fit_of {H : Type} {P : Program} {enc : TypeId × Value → H} {w : World} {fuel : Nat} : ∀ (ts : List TypeId) (o : Nat) (cs : List Value) (fs : List Field) (ys : List (DataW H × List MemPlace)),
    fs.map (fun f => (f.offset, f.type)) = Lay P o ts → cs.length = o + (ts.map P.cellsOf).sum → ys.length = fs.length →
    (∀ (i : Nat) (f : Field), fs[i]? = some f → DataW.trod enc P w 0 (fun _ => true) true fuel f.type ((cs.drop f.offset).take (P.cellsOf f.type)) = ys[i]?) → Fit P enc w fuel ts (cs.drop o) ys
  | [], o, cs, fs, ys, hl, hn, hy, hf => by
    simp [Lay] at hl
    subst hl
    simp at hn hy
    refine ⟨?_, ?_⟩
    · rw [List.drop_of_length_le (by omega)]
    · exact hy
  | t :: ts, o, cs, fs, ys, hl, hn, hy, hf => by
    cases fs with
    | nil => simp [Lay] at hl
    | cons f fs =>
      simp only [Lay, List.map_cons, List.cons.injEq, Prod.mk.injEq] at hl
      obtain ⟨⟨h1, h2⟩, hl⟩ := hl
      cases ys with
      | nil => simp at hy
      | cons y r =>
        have h0 := hf 0 f rfl
        rw [h1, h2] at h0
        simp only [List.getElem?_cons_zero] at h0
        refine ⟨y, r, rfl, h0, ?_⟩
        rw [List.drop_drop]
        exact fit_of ts (o + P.cellsOf t) cs fs r hl (by simp at hn; omega) (by simpa using hy) (fun i g hg => by simpa using hf (i + 1) g (by simpa using hg))
theorem Rd.struct {P : Program} {α β : Type} {d : Kd α} {t : TypeId} {fs : Array Field} {ts : List TypeId} {good : Nat → α → Prop} {f : β → α} (mk : α → β) (hmk : ∀ a, f (mk a) = a) (hu : P.underlying t = some (.struct fs))
    (hl : fs.toList.map (fun f => (f.offset, f.type)) = Lay P 0 ts) (hc : P.cellsOf t = (ts.map P.cellsOf).sum) (h : RdF P d ts good) : Rd P (Kd.iso d f) t (fun U x => good U (f x)) := by
  intro H enc w fuel cs x hx hs U hU
  obtain ⟨ys, n, rfl, rfl, hcl, hyl, hg⟩ := DataW.trod_struct hu hx
  have hfit := fit_of (H := H) (P := P) (enc := enc) (w := w) (fuel := n) ts 0 cs fs.toList ys hl (by omega) (by simpa using hyl) (fun i g hi => hg i g (by simpa using hi))
  rw [List.drop_zero] at hfit
  have hts : fs.toList.map (·.type) = ts := by
    have e := congrArg (List.map Prod.snd) hl
    have e2 : ∀ (o : Nat) (ts : List TypeId), (Lay P o ts).map Prod.snd = ts := by
      intro o ts
      induction ts generalizing o with
      | nil => rfl
      | cons t ts ih => simp [Lay, ih]
    rw [e2, List.map_map] at e
    exact e
  obtain ⟨a, hK, ga⟩ := h H enc w n cs ys hfit (fun m hm => hs m (by simp only [DataW.weights, hu, hts]; exact hm)) U (by simp only [Rows.uptoBulk] at hU; omega)
  exact ⟨mk a, by show d.K w (f (mk a)) cs; rw [hmk]; exact hK, by show good U (f (mk a)); rw [hmk]; exact ga⟩
theorem okWide_array {P : Program} {w : World} {base : Nat} {t e : TypeId} {n : Nat} {v : Value} (ht : P.underlying t = some (.array n e)) (h : Value.okWide P w .any base t v) : ∃ cs, v = .agg cs ∧ cs.size = P.cellsOf t := by
  simp only [Value.okWide, ht] at h
  obtain ⟨cs, h1, h2, _⟩ := h
  exact ⟨cs, h1, h2⟩
theorem fit_arr {H : Type} {P : Program} {enc : TypeId × Value → H} {w : World} {fuel : Nat} {e : TypeId} : ∀ (n : Nat) (cs : List Value) (ys : List (DataW H × List MemPlace)),
    cs.length = n * P.cellsOf e → ys.length = n → (∀ (i : Nat), i < n → DataW.trod enc P w 0 (fun _ => true) true fuel e ((cs.drop (i * P.cellsOf e)).take (P.cellsOf e)) = ys[i]?) → Fit P enc w fuel (List.replicate n e) cs ys
  | 0, cs, ys, hn, hy, _ => ⟨List.eq_nil_of_length_eq_zero (by omega), List.eq_nil_of_length_eq_zero hy⟩
  | n + 1, cs, [], _, hy, _ => by cases hy
  | n + 1, cs, y :: r, hn, hy, hf => by
    have h0 := hf 0 (by omega)
    rw [Nat.zero_mul, List.drop_zero] at h0
    rw [Nat.add_mul, Nat.one_mul] at hn
    refine ⟨y, r, rfl, h0, fit_arr n _ r (by rw [List.length_drop]; omega) (by simpa using hy) (fun i hi => ?_)⟩
    have h1 := hf (i + 1) (by omega)
    rw [List.drop_drop, show P.cellsOf e + i * P.cellsOf e = (i + 1) * P.cellsOf e by rw [Nat.add_mul, Nat.one_mul]; omega, h1]
    rfl
theorem weights_arr {H : Type} {P : Program} {e : TypeId} : ∀ (n : Nat) (ds : List (DataW H)), ds.length = n → DataW.weightsEach P (List.replicate n e) ds = DataW.weightsAll P e ds
  | 0, ds, h => by obtain rfl := List.eq_nil_of_length_eq_zero h; rfl
  | n + 1, [], h => by cases h
  | n + 1, d :: r, h => by
    rw [List.replicate_succ, DataW.weightsEach, DataW.weightsAll, weights_arr n r (by simpa using h)]
theorem Rd.array {P : Program} {α β : Type} {d : Kd α} {t e : TypeId} {n : Nat} {ts : List TypeId} {good : Nat → α → Prop} {f : β → α} (mk : α → β) (hmk : ∀ a, f (mk a) = a) (hu : P.underlying t = some (.array n e))
    (hl : ts = List.replicate n e) (hc : P.cellsOf t = n * P.cellsOf e) (h : RdF P d ts good) : Rd P (Kd.iso d f) t (fun U x => good U (f x)) := by
  intro H enc w fuel cs x hx hs U hU
  obtain ⟨ys, m, rfl, rfl, hcl, hyl, hg⟩ := DataW.trod_array hu hx
  subst hl
  have hfit := fit_arr (H := H) (P := P) (enc := enc) (w := w) (fuel := m) n cs ys (by omega) hyl hg
  obtain ⟨a, hK, ga⟩ := h H enc w m cs ys hfit (fun q hq => hs q (by simp only [DataW.weights, hu]; rw [← weights_arr n _ (by simpa using hyl)]; exact hq)) U (by simp only [Rows.uptoBulk] at hU; omega)
  exact ⟨mk a, by show d.K w (f (mk a)) cs; rw [hmk]; exact hK, by show good U (f (mk a)); rw [hmk]; exact ga⟩
theorem weightsEach_get {H : Type} {P : Program} : ∀ {ts : List TypeId} {ds : List (DataW H)} {j : Nat} {t : TypeId} {d : DataW H}, ts[j]? = some t → ds[j]? = some d → ∀ n ∈ d.weights P t, n ∈ DataW.weightsEach P ts ds
  | [], _, _, _, _, h, _ => by simp at h
  | _ :: _, [], _, _, _, _, h => by simp at h
  | t0 :: ts, d0 :: ds, 0, t, d, ht, hd => by
    simp at ht hd
    subst ht hd
    intro n hn
    rw [DataW.weightsEach]; exact List.mem_append_left _ hn
  | t0 :: ts, d0 :: ds, j + 1, t, d, ht, hd => by
    intro n hn
    rw [DataW.weightsEach]; exact List.mem_append_right _ (weightsEach_get (by simpa using ht) (by simpa using hd) n hn)
/-- An argument. -/
theorem Rd.arg {P : Program} {α : Type} {d : Kd α} {t : TypeId} {good : Nat → α → Prop} (hr : Rd P d t good) {U : Nat} {H : Type} {enc : TypeId × Value → H} {w : World} {v : Value} {D : DataW H} {ps : List MemPlace} {ts : List TypeId} {ds : List (DataW H)} {j : Nat}
    (hsz : (DataW.weightsEach P ts ds).all (· ≤ reachBytes) = true) (ht : ts[j]? = some t) (hd : ds[j]? = some D) (hU : Rows.uptoBulkAll ds ≤ U) (h : DataW.Trod enc P w 0 (fun _ => true) true t v D ps) : ∃ a, d.K w a v.cells.toList ∧ good U a := by
  obtain ⟨fuel, hf⟩ := h
  refine hr H enc w fuel _ _ hf (fun n hn => ?_) U (Nat.le_trans (part_le (List.mem_of_getElem? hd)) hU)
  have := List.all_eq_true.1 hsz n (weightsEach_get ht hd n hn)
  simpa using this
theorem Rd.arg_slice {P : Program} {α : Type} {d : Kd α} {t e : TypeId} {good : Nat → List α → Prop} (hr : Rd P (Kd.slice e d) t good) {U : Nat} {H : Type} {enc : TypeId × Value → H} {w : World} {a : Option Addr} {len cap : Nat} {D : DataW H} {ps : List MemPlace} {ts : List TypeId} {ds : List (DataW H)} {j : Nat}
    (hsz : (DataW.weightsEach P ts ds).all (· ≤ reachBytes) = true) (ht : ts[j]? = some t) (hd : ds[j]? = some D) (hU : Rows.uptoBulkAll ds ≤ U) (h : DataW.Trod enc P w 0 (fun _ => true) true t (.slice a len cap) D ps) : ∃ l, len = l.length ∧ l.length ≤ cap ∧ d.C w a l.length l ∧ good U l := by
  obtain ⟨l, ⟨A, c, he, hl, hC⟩, hg⟩ := hr.arg hsz ht hd hU h
  simp [Value.cells] at he
  obtain ⟨rfl, rfl, rfl⟩ := he
  exact ⟨l, rfl, hl, hC, hg⟩
end Go.Proofs.YtpnhamfodjfacaaDoor.Q
