/- Chapter 5: the program's AtLeast. -/
import Derived.Test.YtknpmknkkofnjaaPQSets05
import Derived.Test.YtknpmknkkofnjaaPx2
namespace Go.Proofs.Ytknpmknkkofnjaa.Q
open Go.RowKit Go.Proofs.YtknpmknkkofnjaaW.PrintWords Go.Proofs.YtknpmknkkofnjaaW.PrintLast Go.Proofs.YtknpmknkkofnjaaW.PrintMore Go.Proofs.Ytknpmknkkofnjaa.P
set_option linter.unusedVariables false
set_option linter.unusedSimpArgs false
/-- A sorted list begins with a run of its first element. -/
theorem run_split (x : Int) : ∀ (l : List Int), (x :: l).Pairwise (· ≤ ·) → ∃ (c : Nat) (t : List Int), x :: l = List.replicate (c + 1) x ++ t ∧ (∀ y ∈ t, x < y) ∧ t.Pairwise (· ≤ ·)
  | [], _ => ⟨0, [], rfl, by simp, by simp⟩
  | y :: l, h => by
    have h1 := List.pairwise_cons.1 h
    have h2 := List.pairwise_cons.1 h1.2
    by_cases e : y = x
    · subst e
      obtain ⟨c, t, e1, e2, e3⟩ := run_split y l h1.2
      exact ⟨c + 1, t, by rw [e1]; rfl, e2, e3⟩
    · refine ⟨0, y :: l, rfl, fun z hz => ?_, h1.2⟩
      have hxy := h1.1 y (by simp)
      rcases List.mem_cons.1 hz with e' | e'
      · omega
      · have := h2.1 z e'; omega
def sel (k : Int) (t : List Int) : List Int := (uniq t).filter fun x => decide (k ≤ (t.count x : Int))
theorem sel_nil (k : Int) : sel k [] = [] := by
  have : uniq ([] : List Int) = [] := List.eq_nil_of_length_eq_zero (by have := uniq_len []; simpa using this)
  rw [sel, this]; rfl
theorem sel_run (k : Int) (c : Nat) (x : Int) (t : List Int) (h : ∀ y ∈ t, x < y) :
    sel k (List.replicate (c + 1) x ++ t) = (if k ≤ ((c + 1 : Nat) : Int) then [x] else []) ++ sel k t := by
  have hx : x ∉ t := fun hx => by have := h x hx; omega
  have hu : uniq (List.replicate (c + 1) x ++ t) = x :: uniq t := by
    refine srt_ext (uniq_srt _) (List.pairwise_cons.2 ⟨fun y hy => h y ((mem_uniq t y).1 hy), uniq_srt t⟩) (fun y => ?_)
    rw [mem_uniq, List.mem_append, List.mem_cons, mem_uniq, List.mem_replicate]
    constructor
    · rintro (⟨_, e⟩ | e)
      · exact .inl e
      · exact .inr e
    · rintro (e | e)
      · exact .inl ⟨by omega, e⟩
      · exact .inr e
  have hcx : (List.replicate (c + 1) x ++ t).count x = c + 1 := by
    rw [List.count_append, List.count_replicate_self, List.count_eq_zero_of_not_mem hx]
  have htail : (uniq t).filter (fun y => decide (k ≤ ((List.replicate (c + 1) x ++ t).count y : Int))) = sel k t := by
    refine List.filter_congr fun y hy => ?_
    have hy' : y ≠ x := by rintro rfl; exact hx ((mem_uniq t y).1 hy)
    rw [List.count_append, List.count_replicate, if_neg (by simpa using hy'.symm), Nat.zero_add]
  rw [sel, hu, List.filter_cons, htail, hcx]
  by_cases hk : k ≤ ((c + 1 : Nat) : Int)
  · rw [if_pos hk, if_pos (decide_eq_true hk)]; rfl
  · rw [if_neg hk, if_neg (by simpa using hk)]; rfl
theorem AtL_l1 (k0 : Int) (s : List Int) (hs : s.Pairwise (· ≤ ·)) (hl : s.length ≤ 1000000000) :
    ∀ d (i : Nat) (out : List Int), s.length - i ≤ d → i ≤ s.length → out.length ≤ i → Ev (fun k => posting_AtLeast.l1 k k0 s out (i : Int)) (out ++ sel k0 (s.drop i)) := by
  intro d
  induction d with
  | zero =>
    intro i out hd hi ho
    rw [List.drop_of_length_le (by omega), sel_nil, List.append_nil]
    refine Ev.step (f := fun _ => some out) (fun k => ?_) (Ev.now _)
    rw [posting_AtLeast.l1, if_neg (show ¬ (i : Int) < (s.length : Int) by omega)]
  | succ d ih =>
    intro i out hd hi ho
    by_cases hlt : i < s.length
    case neg =>
      rw [List.drop_of_length_le (by omega), sel_nil, List.append_nil]
      refine Ev.step (f := fun _ => some out) (fun k => ?_) (Ev.now _)
      rw [posting_AtLeast.l1, if_neg (show ¬ (i : Int) < (s.length : Int) by omega)]
    have hdrop : (s.drop i).Pairwise (· ≤ ·) := hs.sublist (List.drop_sublist _ _)
    have hdc := drop_cons s i hlt
    rw [hdc] at hdrop
    obtain ⟨c, t, e1, e2, e3⟩ := run_split s[i] (s.drop (i + 1)) hdrop
    rw [← hdc] at e1
    have hlen : s.length - i = c + 1 + t.length := by have := congrArg List.length e1; simpa using this
    have ht : s.drop (i + (c + 1)) = t := by
      rw [← List.drop_drop, e1]
      simp
    have hrun : ∀ j, i ≤ j → (hj : j < i + (c + 1)) → s[j]'(by omega) = s[i] := by
      intro j h1 h2
      have e4 : (s.drop i)[j - i]? = (List.replicate (c + 1) s[i] ++ t)[j - i]? := by rw [e1]
      rw [List.getElem?_drop, List.getElem?_append_left (by simp; omega), List.getElem?_replicate, if_pos (by omega), show i + (j - i) = j from by omega, List.getElem?_eq_getElem (by omega)] at e4
      exact Option.some.inj e4
    have hend : ∀ (h : i + (c + 1) < s.length), s[i + (c + 1)]'h ≠ s[i] := by
      intro h e
      have hm : s[i + (c + 1)]'h ∈ t := by rw [← ht, drop_cons s _ h]; exact List.mem_cons_self
      have := e2 _ hm
      omega
    have hnext : Ev (fun k => posting_AtLeast.l1 k k0 s (out ++ (if k0 ≤ ((c + 1 : Nat) : Int) then [s[i]] else [])) ((i + (c + 1) : Nat) : Int)) (out ++ sel k0 (s.drop i)) := by
      have h1 := ih (i + (c + 1)) (out ++ (if k0 ≤ ((c + 1 : Nat) : Int) then [s[i]] else [])) (by omega) (by omega) (by rw [List.length_append]; split <;> simp <;> omega)
      rw [ht, List.append_assoc, ← sel_run k0 c s[i] t e2, ← e1] at h1
      exact h1
    have hloop : ∀ m (j : Nat), j + m = i + (c + 1) → i ≤ j → Ev (fun k => posting_AtLeast.l2 k k0 s out (i : Int) (j : Int)) (out ++ sel k0 (s.drop i)) := by
      intro m
      induction m with
      | zero =>
        intro j hj hij
        have hw : wrap64 ((j : Int) - (i : Int)) = ((c + 1 : Nat) : Int) := by rw [w64 (by omega) (by omega)]; omega
        have hj' : j = i + (c + 1) := by omega
        by_cases hjl : j < s.length
        · have hne : ¬ rd s (j : Int) = rd s (i : Int) := by rw [rd_nat s j hjl, rd_nat s i hlt]; subst hj'; exact hend hjl
          by_cases hk : k0 ≤ ((c + 1 : Nat) : Int)
          · rw [if_pos hk, ← hj'] at hnext
            refine Ev.step (fun k => ?_) hnext
            rw [posting_AtLeast.l2, if_pos (show (j : Int) < (s.length : Int) by omega), if_pos (show (0 : Int) ≤ (j : Int) by omega), if_pos (show (0 : Int) ≤ (i : Int) by omega), if_pos (show (i : Int) < (s.length : Int) by omega), if_neg hne, hw, if_pos hk, if_pos (by omega), rd_nat s i hlt]
          · rw [if_neg hk, ← hj', List.append_nil] at hnext
            refine Ev.step (fun k => ?_) hnext
            rw [posting_AtLeast.l2, if_pos (show (j : Int) < (s.length : Int) by omega), if_pos (show (0 : Int) ≤ (j : Int) by omega), if_pos (show (0 : Int) ≤ (i : Int) by omega), if_pos (show (i : Int) < (s.length : Int) by omega), if_neg hne, hw, if_neg hk]
        · by_cases hk : k0 ≤ ((c + 1 : Nat) : Int)
          · rw [if_pos hk, ← hj'] at hnext
            refine Ev.step (fun k => ?_) hnext
            rw [posting_AtLeast.l2, if_neg (show ¬ (j : Int) < (s.length : Int) by omega), hw, if_pos hk, if_pos (show (0 : Int) ≤ (i : Int) by omega), if_pos (show (i : Int) < (s.length : Int) by omega), if_pos (by omega), rd_nat s i hlt]
          · rw [if_neg hk, ← hj', List.append_nil] at hnext
            refine Ev.step (fun k => ?_) hnext
            rw [posting_AtLeast.l2, if_neg (show ¬ (j : Int) < (s.length : Int) by omega), hw, if_neg hk]
      | succ m ihm =>
        intro j hj hij
        have hjl : j < s.length := by omega
        have heq : rd s (j : Int) = rd s (i : Int) := by rw [rd_nat s j hjl, rd_nat s i hlt]; exact hrun j hij (by omega)
        refine Ev.step (fun k => ?_) (ihm (j + 1) (by omega) (by omega))
        rw [posting_AtLeast.l2, if_pos (show (j : Int) < (s.length : Int) by omega), if_pos (show (0 : Int) ≤ (j : Int) by omega), if_pos (show (0 : Int) ≤ (i : Int) by omega), if_pos (show (i : Int) < (s.length : Int) by omega), if_pos heq, w64 (by omega) (by omega)]
        rfl
    refine Ev.step (fun k => ?_) (hloop (c + 1) i (by omega) (by omega))
    rw [posting_AtLeast.l1, if_pos (show (i : Int) < (s.length : Int) by omega)]
def cnt (ls : List (List Int)) (x : Int) : Nat := ls.countP fun l => decide (x ∈ l)
/-- The elements that are in at least k lists. -/
def atl (k : Int) (ls : List (List Int)) : List Int := (uniq ls.flatten).filter fun x => decide (k ≤ (cnt ls x : Int))
theorem count_uniq (l : List Int) (x : Int) : (uniq l).count x = if x ∈ l then 1 else 0 := by
  have hn : (uniq l).Nodup := (uniq_srt l).imp (fun h => by omega)
  by_cases h : x ∈ l
  · rw [if_pos h]
    have h1 := List.nodup_iff_count.1 hn x
    have h2 : 0 < (uniq l).count x := List.count_pos_iff.2 ((mem_uniq l x).2 h)
    omega
  · rw [if_neg h, List.count_eq_zero_of_not_mem (fun h1 => h ((mem_uniq l x).1 h1))]
theorem count_flat (ls : List (List Int)) (x : Int) : (ls.flatMap uniq).count x = cnt ls x := by
  induction ls with
  | nil => rfl
  | cons l ls ih =>
    rw [List.flatMap_cons, List.count_append, ih, count_uniq]
    unfold cnt
    rw [List.countP_cons]
    by_cases h : x ∈ l <;> simp [h] <;> omega
theorem sel_flat (k : Int) (ls : List (List Int)) : sel k (sortd (ls.flatMap uniq)) = atl k ls := by
  have hp : (sortd (ls.flatMap uniq)).Perm (ls.flatMap uniq) := List.mergeSort_perm _ _
  have hu : uniq (sortd (ls.flatMap uniq)) = uniq ls.flatten := srt_ext (uniq_srt _) (uniq_srt _) (fun x => by
    rw [mem_uniq, mem_uniq, sortd_mem, List.mem_flatMap, List.mem_flatten]
    constructor
    · rintro ⟨l, h1, h2⟩; exact ⟨l, h1, (mem_uniq l x).1 h2⟩
    · rintro ⟨l, h1, h2⟩; exact ⟨l, h1, (mem_uniq l x).2 h2⟩)
  rw [sel, hu, atl]
  refine List.filter_congr fun x _ => ?_
  rw [hp.count_eq, count_flat]
theorem flat_len (ls : List (List Int)) (M : Nat) (h : ∀ l ∈ ls, l.length ≤ M) : (ls.flatMap uniq).length ≤ ls.length * M := by
  induction ls with
  | nil => simp
  | cons l ls ih =>
    have h1 := ih (fun m hm => h m (by simp [hm]))
    have h2 := h l (by simp)
    have h3 := uniq_len l
    rw [List.flatMap_cons, List.length_append, List.length_cons, Nat.succ_mul]
    omega
theorem AtL_is (k0 : Int) (ls : List (List Int)) (hn : ls.length ≤ 1000) (hl : ∀ l ∈ ls, l.length ≤ 1000) : Ev (fun k => posting_AtLeast.f k k0 ls) (atl k0 ls) := by
  rw [← sel_flat]
  have hfl := flat_len ls 1000 hl
  have key : ∀ d (i : Nat), i + d = ls.length → Ev (fun k => posting_AtLeast.l0 k k0 ((ls.take i).flatMap uniq) ls (ls.length : Int) (i : Int)) (sel k0 (sortd (ls.flatMap uniq))) := by
    intro d
    induction d with
    | zero =>
      intro i hi
      rw [List.take_of_length_le (by omega)]
      have h1 := AtL_l1 k0 (sortd (ls.flatMap uniq)) (sortd_le _) (by rw [sortd_len]; omega) (sortd (ls.flatMap uniq)).length 0 [] (by omega) (by omega) (by simp)
      refine Ev.step (fun k => ?_) h1
      rw [posting_AtLeast.l0, if_neg (show ¬ (i : Int) < (ls.length : Int) by omega), slices_Sort_int_int.f, if_pos (by omega), Option.bind_some]
      rfl
    | succ d ih =>
      intro i hi
      have hlt : i < ls.length := by omega
      have hm := hl ls[i] (List.getElem_mem _)
      have hthis := ih (i + 1) (by omega)
      rw [← take_snoc ls i hlt, List.flatMap_append, List.flatMap_singleton] at hthis
      have hlen : ((ls.take i).flatMap uniq).length ≤ i * 1000 := by
        have := flat_len (ls.take i) 1000 (fun l h => hl l (List.mem_of_mem_take h))
        rwa [List.length_take, Nat.min_eq_left (by omega)] at this
      have hu := uniq_len ls[i]
      refine Ev.step (fun k => ?_) hthis
      rw [posting_AtLeast.l0, if_pos (show (i : Int) < (ls.length : Int) by omega), if_pos (show (0 : Int) ≤ (i : Int) by omega), if_pos (show (i : Int) < (ls.length : Int) by omega), rd_L1_nat ls i hlt, unique_is _ (by omega), Option.bind_some, if_pos (by omega), w64 (by omega) (by omega)]
      rfl
  exact key ls.length 0 (by omega)
end Go.Proofs.Ytknpmknkkofnjaa.Q
