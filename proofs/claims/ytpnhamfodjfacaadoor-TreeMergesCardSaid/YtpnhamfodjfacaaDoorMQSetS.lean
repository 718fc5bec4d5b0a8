/- Strings in increasing order, each once. -/
import Derived.Lib.SlicesCompact
namespace Go.Proofs.YtpnhamfodjfacaaDoor.M
def bl (s : ByteArray) : List UInt8 := s.data.toList
def ofB (l : List UInt8) : ByteArray := ⟨⟨l⟩⟩
theorem bl_ofB (l : List UInt8) : bl (ofB l) = l := rfl
theorem ofB_bl (s : ByteArray) : ofB (bl s) = s := rfl
theorem bl_inj {s t : ByteArray} (h : bl s = bl t) : s = t := by rw [← ofB_bl s, ← ofB_bl t, h]
theorem lt_of_le_ne {a b : List UInt8} (h : a ≤ b) (hne : a ≠ b) : a < b := by
  rcases Classical.em (a < b) with h1 | h1
  · exact h1
  · exact absurd (List.le_antisymm h h1) hne
def sortdS (l : List ByteArray) : List ByteArray := ((l.map bl).mergeSort fun x y => decide (x ≤ y)).map ofB
def uniqS (l : List ByteArray) : List ByteArray := Go.Lib.compactUpTo (sortdS l).toArray (sortdS l).toArray.size
/-- In increasing order. -/
def Inc (l : List ByteArray) : Prop := l.Pairwise fun a b => bl a < bl b
theorem inc_ext : ∀ {l m : List ByteArray}, Inc l → Inc m → (∀ x, x ∈ l ↔ x ∈ m) → l = m
  | [], [], _, _, _ => rfl
  | [], b :: m, _, _, h => absurd ((h b).2 (by simp)) (by simp)
  | a :: l, [], _, _, h => absurd ((h a).1 (by simp)) (by simp)
  | a :: l, b :: m, hl, hm, h => by
    have hl1 := List.pairwise_cons.1 hl
    have hm1 := List.pairwise_cons.1 hm
    have hab : a = b := by
      rcases List.mem_cons.1 ((h a).1 (by simp)) with e | e
      · exact e
      · rcases List.mem_cons.1 ((h b).2 (by simp)) with e2 | e2
        · exact e2.symm
        · exact absurd (List.lt_trans (hm1.1 a e) (hl1.1 b e2)) (List.lt_irrefl _)
    subst hab
    rw [inc_ext hl1.2 hm1.2 (fun x => ⟨fun hx => ?_, fun hx => ?_⟩)]
    · rcases List.mem_cons.1 ((h x).1 (by simp [hx])) with e | e
      · subst e; exact absurd (hl1.1 x hx) (List.lt_irrefl _)
      · exact e
    · rcases List.mem_cons.1 ((h x).2 (by simp [hx])) with e | e
      · subst e; exact absurd (hm1.1 x hx) (List.lt_irrefl _)
      · exact e
theorem sortdS_mem (l : List ByteArray) (x : ByteArray) : x ∈ sortdS l ↔ x ∈ l := by
  rw [sortdS, List.mem_map]
  constructor
  · rintro ⟨y, hy, rfl⟩
    rw [List.mem_mergeSort, List.mem_map] at hy
    obtain ⟨z, hz, rfl⟩ := hy
    exact hz
  · intro h
    exact ⟨bl x, List.mem_mergeSort.2 (List.mem_map.2 ⟨x, h, rfl⟩), rfl⟩
theorem sortdS_len (l : List ByteArray) : (sortdS l).length = l.length := by rw [sortdS, List.length_map, List.length_mergeSort, List.length_map]
theorem sortdS_le (l : List ByteArray) : (sortdS l).Pairwise fun a b => bl a ≤ bl b := by
  rw [sortdS, List.pairwise_map]
  have h := List.pairwise_mergeSort (le := fun x y : List UInt8 => decide (x ≤ y)) (fun a b c h1 h2 => by
    simp only [decide_eq_true_eq] at *; exact List.le_trans h1 h2) (fun a b => by
    rcases List.le_total a b with h | h <;> simp [h]) (l.map bl)
  exact h.imp (fun {a b} h => (of_decide_eq_true h : a ≤ b))
theorem compactS (s : List ByteArray) (hs : s.Pairwise fun a b => bl a ≤ bl b) : ∀ m, m ≤ s.length → Inc (Go.Lib.compactUpTo s.toArray m) ∧ (∀ x, x ∈ Go.Lib.compactUpTo s.toArray m ↔ x ∈ s.take m) := by
  intro m
  induction m with
  | zero => intro _; simp [Go.Lib.compactUpTo, Inc]
  | succ m ih =>
    intro hm
    obtain ⟨h1, h2⟩ := ih (by omega)
    have hg : ∀ j, (hj : j < s.length) → s.toArray[j]! = s[j] := fun j hj => by rw [getElem!_pos s.toArray j (by simpa using hj)]; simp
    have htake : s.take (m + 1) = s.take m ++ [s[m]] := by rw [List.take_succ_eq_append_getElem (by omega)]
    have hle : ∀ x ∈ s.take m, bl x ≤ bl s[m] := by
      intro x hx
      obtain ⟨j, hj, rfl⟩ := List.mem_iff_getElem.1 hx
      simp at hj
      rw [List.getElem_take]
      exact List.pairwise_iff_getElem.1 hs j m (by omega) (by omega) (by omega)
    rw [Go.Lib.compactUpTo_succ, htake]
    by_cases hk : Go.Lib.keeps s.toArray m = true
    · rw [if_pos hk, hg m (by omega)]
      have hlt : ∀ x ∈ s.take m, bl x < bl s[m] := by
        intro x hx
        simp only [Go.Lib.keeps, decide_eq_true_eq] at hk
        rcases hk with rfl | hk
        · simp at hx
        · by_cases hm0 : m = 0
          · subst hm0; simp at hx
          rw [hg m (by omega), hg (m - 1) (by omega)] at hk
          obtain ⟨j, hj, rfl⟩ := List.mem_iff_getElem.1 hx
          simp at hj
          rw [List.getElem_take]
          have hmm := List.pairwise_iff_getElem.1 hs (m - 1) m (by omega) (by omega) (by omega)
          have hlt1 : bl (s[m - 1]'(by omega)) < bl s[m] := lt_of_le_ne hmm (fun e => hk (bl_inj e.symm))
          rcases Nat.lt_or_ge j (m - 1) with h | h
          · exact List.lt_of_le_of_lt (List.pairwise_iff_getElem.1 hs j (m - 1) (by omega) (by omega) h) hlt1
          · have : j = m - 1 := by omega
            subst this; exact hlt1
      refine ⟨List.pairwise_append.2 ⟨h1, by simp, fun x hx y hy => ?_⟩, fun x => by rw [List.mem_append, List.mem_append, h2 x]⟩
      rw [List.mem_singleton] at hy
      subst hy
      exact hlt x ((h2 x).1 hx)
    · rw [if_neg hk, List.append_nil]
      refine ⟨h1, fun x => ?_⟩
      rw [h2 x, List.mem_append, List.mem_singleton]
      refine ⟨.inl, fun h => h.elim id (fun e => ?_)⟩
      simp only [Go.Lib.keeps, decide_eq_true_eq, not_or, Classical.not_not, ne_eq] at hk
      rw [hg m (by omega), hg (m - 1) (by omega)] at hk
      rw [e, hk.2]
      exact List.mem_iff_getElem.2 ⟨m - 1, by simp; omega, by simp⟩
theorem uniqS_inc (l : List ByteArray) : Inc (uniqS l) := (compactS (sortdS l) (sortdS_le l) _ (by simp)).1
theorem mem_uniqS (l : List ByteArray) (x : ByteArray) : x ∈ uniqS l ↔ x ∈ l := by
  rw [uniqS, (compactS (sortdS l) (sortdS_le l) _ (by simp)).2 x, List.size_toArray, List.take_length, sortdS_mem]
theorem uniqS_len (l : List ByteArray) : (uniqS l).length ≤ l.length := by
  unfold uniqS Go.Lib.compactUpTo
  rw [List.length_map]
  refine Nat.le_trans (List.length_filter_le _ _) ?_
  simp [sortdS_len]
end Go.Proofs.YtpnhamfodjfacaaDoor.M
