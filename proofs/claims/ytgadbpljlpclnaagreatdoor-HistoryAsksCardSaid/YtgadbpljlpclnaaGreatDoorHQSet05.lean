import Derived.Lib.SlicesCompact
namespace Go.Proofs.YtgadbpljlpclnaaGreatDoor.H
/-- The elements in increasing order, each once. -/
def sortd (l : List Int) : List Int := l.mergeSort fun x y => decide (x ≤ y)
def uniq (l : List Int) : List Int := Go.Lib.compactUpTo (sortd l).toArray (sortd l).toArray.size

theorem srt_ext : ∀ {l m : List Int}, l.Pairwise (· < ·) → m.Pairwise (· < ·) → (∀ x, x ∈ l ↔ x ∈ m) → l = m
  | [], [], _, _, _ => rfl
  | [], b :: m, _, _, h => absurd ((h b).2 (by simp)) (by simp)
  | a :: l, [], _, _, h => absurd ((h a).1 (by simp)) (by simp)
  | a :: l, b :: m, hl, hm, h => by
    have hl1 := List.pairwise_cons.1 hl
    have hm1 := List.pairwise_cons.1 hm
    have hab : a = b := by
      rcases List.mem_cons.1 ((h a).1 (by simp)) with e | e
      · exact e
      · rcases List.mem_cons.1 ((h b).2 (by simp)) with e2 | e2
        · exact e2.symm
        · have h1 := hm1.1 a e; have h2 := hl1.1 b e2; omega
    subst hab
    rw [srt_ext hl1.2 hm1.2 (fun x => ⟨fun hx => ?_, fun hx => ?_⟩)]
    · rcases List.mem_cons.1 ((h x).1 (by simp [hx])) with e | e
      · have := hl1.1 x hx; omega
      · exact e
    · rcases List.mem_cons.1 ((h x).2 (by simp [hx])) with e | e
      · have := hm1.1 x hx; omega
      · exact e

theorem sortd_mem (l : List Int) (x : Int) : x ∈ sortd l ↔ x ∈ l := List.mem_mergeSort
theorem sortd_len (l : List Int) : (sortd l).length = l.length := List.length_mergeSort l
theorem sortd_le (l : List Int) : (sortd l).Pairwise (· ≤ ·) := by
  have h := List.pairwise_mergeSort (le := fun x y : Int => decide (x ≤ y)) (fun a b c h1 h2 => by simp at *; omega) (fun a b => by simp; omega) l
  exact h.imp (fun h => by simpa using h)
/-- A recursion for compactUpTo of a sorted row. -/
theorem compact_srt (s : List Int) (hs : s.Pairwise (· ≤ ·)) : ∀ m, m ≤ s.length → (Go.Lib.compactUpTo s.toArray m).Pairwise (· < ·) ∧ (∀ x, x ∈ Go.Lib.compactUpTo s.toArray m ↔ x ∈ s.take m) := by
  intro m
  induction m with
  | zero => intro _; simp [Go.Lib.compactUpTo]
  | succ m ih =>
    intro hm
    obtain ⟨h1, h2⟩ := ih (by omega)
    have hg : ∀ j, (hj : j < s.length) → s.toArray[j]! = s[j] := fun j hj => by rw [getElem!_pos s.toArray j (by simpa using hj)]; simp
    have htake : s.take (m + 1) = s.take m ++ [s[m]] := by rw [List.take_succ_eq_append_getElem (by omega)]
    have hle : ∀ x ∈ s.take m, x ≤ s[m] := by
      intro x hx
      obtain ⟨j, hj, rfl⟩ := List.mem_iff_getElem.1 hx
      simp at hj
      rw [List.getElem_take]
      exact List.pairwise_iff_getElem.1 hs j m (by omega) (by omega) (by omega)
    rw [Go.Lib.compactUpTo_succ, htake]
    by_cases hk : Go.Lib.keeps s.toArray m = true
    · rw [if_pos hk, hg m (by omega)]
      have hlt : ∀ x ∈ s.take m, x < s[m] := by
        intro x hx
        simp only [Go.Lib.keeps, decide_eq_true_eq] at hk
        rcases hk with rfl | hk
        · simp at hx
        · by_cases hm0 : m = 0
          · subst hm0; simp at hx
          rw [hg m (by omega), hg (m - 1) (by omega)] at hk
          obtain ⟨j, hj, rfl⟩ := List.mem_iff_getElem.1 hx
          simp at hj
          rw [List.getElem_take]
          have hmm := List.pairwise_iff_getElem.1 hs (m - 1) m (by omega) (by omega) (by omega)
          have hj1 : s[j] ≤ s[m - 1] := by
            rcases Nat.lt_or_ge j (m - 1) with h | h
            · exact List.pairwise_iff_getElem.1 hs j (m - 1) (by omega) (by omega) h
            · have : j = m - 1 := by omega
              subst this; exact Int.le_refl _
          omega
      refine ⟨List.pairwise_append.2 ⟨h1, by simp, fun x hx y hy => ?_⟩, fun x => by rw [List.mem_append, List.mem_append, h2 x]⟩
      rw [List.mem_singleton] at hy
      subst hy
      exact hlt x ((h2 x).1 hx)
    · rw [if_neg hk, List.append_nil]
      refine ⟨h1, fun x => ?_⟩
      rw [h2 x, List.mem_append, List.mem_singleton]
      refine ⟨.inl, fun h => h.elim id (fun e => ?_)⟩
      simp only [Go.Lib.keeps, decide_eq_true_eq, not_or, Classical.not_not, ne_eq] at hk
      rw [hg m (by omega), hg (m - 1) (by omega)] at hk
      rw [e, hk.2]
      exact List.mem_iff_getElem.2 ⟨m - 1, by simp; omega, by simp⟩
theorem uniq_srt (l : List Int) : (uniq l).Pairwise (· < ·) := (compact_srt (sortd l) (sortd_le l) _ (by simp)).1
theorem mem_uniq (l : List Int) (x : Int) : x ∈ uniq l ↔ x ∈ l := by
  rw [uniq, (compact_srt (sortd l) (sortd_le l) _ (by simp)).2 x, List.size_toArray, List.take_length, sortd_mem]
theorem uniq_len (l : List Int) : (uniq l).length ≤ l.length := by
  unfold uniq Go.Lib.compactUpTo
  rw [List.length_map]
  refine Nat.le_trans (List.length_filter_le _ _) ?_
  simp [sortd_len]
end Go.Proofs.YtgadbpljlpclnaaGreatDoor.H
