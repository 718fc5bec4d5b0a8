/- TreeMerges, over lists alone. -/
import Derived.Test.YtpnhamfodjfacaaDoorStTreeMerges
import Derived.Test.YtpnhamfodjfacaaDoorMQ25
namespace Go.Proofs.YtpnhamfodjfacaaDoor.Pure
open Go.RowKit Go.Proofs.YtpnhamfodjfacaaDoorW.PrintWords Go.Proofs.YtpnhamfodjfacaaDoorW.PrintLast Go.Proofs.YtpnhamfodjfacaaDoorW.PrintMore Go.Proofs.YtpnhamfodjfacaaDoor.M Go.Proofs.YtpnhamfodjfacaaDoor.Q
set_option linter.unusedVariables false
set_option linter.unusedSimpArgs false
set_option linter.unusedSectionVars false
open Classical
theorem rdLs_nat (l : List FS) (i : Nat) (h : i < l.length) : rd_L4 l (i : Int) = l[i] := by
  simp [rd_L4, List.getD_eq_getElem?_getD, List.getElem?_eq_getElem h]
theorem blob_none {s : ByteArray} : ∀ {l : FS}, (∀ f ∈ l, f.f0 ≠ s) → blobL l s = 0
  | [], _ => rfl
  | f :: l, h => by
    rw [blobL, if_neg (h f List.mem_cons_self)]
    exact blob_none (fun g hg => h g (List.mem_cons_of_mem _ hg))
theorem blob_map (g : ByteArray → Int) (p : ByteArray) : ∀ ks : List ByteArray, blobL ((ks.filter fun s => decide (g s ≠ 0)).map fun s => (⟨s, g s⟩ : SF)) p = if p ∈ ks then g p else 0
  | [] => by rw [if_neg (by simp)]; rfl
  | k :: ks => by
    have ih := blob_map g p ks
    by_cases h : g k ≠ 0
    · rw [List.filter_cons_of_pos (by simpa using h), List.map_cons, blobL]
      simp only []
      by_cases e : k = p
      · rw [if_pos e, if_pos (by rw [e]; exact List.mem_cons_self), e]
      · rw [if_neg e, ih]
        by_cases h2 : p ∈ ks
        · rw [if_pos h2, if_pos (List.mem_cons_of_mem _ h2)]
        · rw [if_neg h2, if_neg (fun h3 => (List.mem_cons.1 h3).elim (fun h => e h.symm) h2)]
    · rw [List.filter_cons_of_neg (by simpa using h), ih]
      have h0 : g k = 0 := Classical.byContradiction h
      by_cases h2 : p ∈ ks
      · rw [if_pos h2, if_pos (List.mem_cons_of_mem _ h2)]
      · rw [if_neg h2]
        by_cases e : p = k
        · rw [if_pos (by rw [e]; exact List.mem_cons_self), e, h0]
        · rw [if_neg (fun h3 => (List.mem_cons.1 h3).elim e h2)]
theorem not_paths {o a b : FS} {p : ByteArray} (h : p ∉ pathsM [contsM o, contsM a, contsM b]) : blobL o p = 0 ∧ blobL a p = 0 ∧ blobL b p = 0 := by
  have h1 := mem_paths [o, a, b] p
  simp only [List.map_cons, List.map_nil] at h1
  rw [h1] at h
  have key : ∀ l ∈ [o, a, b], blobL l p = 0 := fun l hl => blob_none (fun f hf e => h ⟨l, hl, f, hf, e⟩)
  exact ⟨key o (by simp), key a (by simp), key b (by simp)⟩
theorem blob_merge (o a b : FS) (p : ByteArray) : blobL (mergeF o a b) p = pickL o a b p := by
  rw [mergeF, blob_map]
  by_cases h : p ∈ pathsM [contsM o, contsM a, contsM b]
  · rw [if_pos h]
  · obtain ⟨h1, h2, h3⟩ := not_paths h
    rw [if_neg h, pickL, h1, h2, h3]
    rfl
theorem mem_mergeC (o a b : FS) (p : ByteArray) : decide (p ∈ mergeC o a b) = clashL o a b p := by
  rw [mergeC, List.mem_filter, Bool.decide_and, Bool.decide_eq_true]
  by_cases h : p ∈ pathsM [contsM o, contsM a, contsM b]
  · rw [decide_eq_true h, Bool.true_and]
  · obtain ⟨h1, h2, h3⟩ := not_paths h
    rw [decide_eq_false h, Bool.false_and, clashL, h1, h2, h3]
    rfl
theorem clash_comm (o a b : FS) (p : ByteArray) : clashL o b a p = clashL o a b p := by
  unfold clashL
  rw [Bool.eq_iff_iff]
  simp only [Bool.and_eq_true, decide_eq_true_eq]
  constructor <;> (rintro ⟨h1, h2, h3⟩; exact ⟨h2, h1, fun e => h3 e.symm⟩)
theorem mergeC_comm (o a b : FS) : mergeC o b a = mergeC o a b := by
  have hp : pathsM [contsM o, contsM b, contsM a] = pathsM [contsM o, contsM a, contsM b] := by
    refine inc_ext (pathsM_inc _) (pathsM_inc _) (fun s => ?_)
    have h1 := mem_paths [o, b, a] s
    have h2 := mem_paths [o, a, b] s
    simp only [List.map_cons, List.map_nil] at h1 h2
    rw [h1, h2]
    constructor <;> (rintro ⟨l, hl, h⟩; exact ⟨l, by simp at hl ⊢; rcases hl with h | h | h <;> simp [h], h⟩)
  unfold mergeC
  rw [hp]
  exact List.filter_congr (fun s _ => clash_comm o a b s)
theorem pick_comm {o a b : FS} {p : ByteArray} (h : clashL o a b p = false) : pickL o b a p = pickL o a b p := by
  unfold clashL at h
  simp only [Bool.and_eq_false_iff, decide_eq_false_iff_not, Decidable.not_not] at h
  unfold pickL
  generalize blobL o p = x at h ⊢
  generalize blobL a p = y at h ⊢
  generalize blobL b p = z at h ⊢
  by_cases h1 : y = x <;> by_cases h2 : z = x <;> simp [h1, h2]
  · rcases h with h | h | h
    · exact absurd h.symm h1
    · exact absurd h.symm h2
    · exact h.symm
theorem tree_eq {α : Type} (F : Bool → α) (o x y n : Int) (hn : n = if x = o then y else x) : (if x = o then (if n = y then (if y = o then (if n = x then (if x = y then F (n != x) else F false) else F true) else (if x = y then F (n != x) else F false)) else F true) else (if y = o then (if n = x then (if x = y then F (n != x) else F false) else F true) else (if x = y then F (n != x) else F false))) = F false := by
  subst hn
  by_cases h1 : x = o <;> by_cases h2 : y = o <;> by_cases h3 : x = y <;> simp_all
section
variable {o a b : FS} (ho : o.length ≤ 100) (ha : a.length ≤ 100) (hb : b.length ≤ 100) (all : List FS) (hall : ∀ l ∈ all, l.length ≤ 1000000) (hal : all.length ≤ 100) (hF : ∀ a b : FS, a.length ≤ 100 → b.length ≤ 100 → (mergeF o a b).length ≤ 1000000) (hC : (mergeC o a b).length ≤ 1000000)
include ho ha hb hF hC
theorem mrg_end (i j : Nat) (hj : j ≤ 10000000) (p : ByteArray) (hnext : Ev (fun k => codesearchlaw25_TreeMergesT.l1 k o a b (mergeF o a b) (mergeC o a b) (mergeF o b a) all (i : Int) ((j + 1 : Nat) : Int)) true) :
    Ev (fun k => codesearchlaw25_TreeMergesT.l2 k o a b (mergeF o a b) (mergeC o a b) (mergeF o b a) all (i : Int) (j : Int) p (blobL o p) (blobL a p) (blobL b p) (blobL (mergeF o a b) p) (clashL o a b p) ((mergeC o a b).length : Int)) true := by
  refine Ev.step (fun k => by rw [codesearchlaw25_TreeMergesT.l2, if_neg (by omega), w1 j (by omega)]) ?_
  have hm := held_is (mergeF o b a) p (hF b a hb ha)
  by_cases h1 : blobL a p = blobL o p
  · have hc : clashL o a b p = false := by simp [clashL, h1]
    have h9 : blobL (mergeF o b a) p = blobL (mergeF o a b) p := by rw [blob_merge, blob_merge, pick_comm hc]
    rw [hc]
    exact Ev.ite_pos h1 (Ev.ite_neg (by decide) (Ev.ite_neg (by decide) (Ev.bind hm (Ev.ite_pos h9 hnext))))
  · refine Ev.ite_neg h1 ?_
    by_cases h2 : blobL b p = blobL o p
    · have hc : clashL o a b p = false := by simp [clashL, h2]
      have h9 : blobL (mergeF o b a) p = blobL (mergeF o a b) p := by rw [blob_merge, blob_merge, pick_comm hc]
      rw [hc]
      exact Ev.ite_pos h2 (Ev.ite_neg (by decide) (Ev.ite_neg (by decide) (Ev.bind hm (Ev.ite_pos h9 hnext))))
    · refine Ev.ite_neg h2 ?_
      by_cases h3 : blobL a p = blobL b p
      · have hc : clashL o a b p = false := by simp [clashL, h3]
        have h9 : blobL (mergeF o b a) p = blobL (mergeF o a b) p := by rw [blob_merge, blob_merge, pick_comm hc]
        rw [hc]
        exact Ev.ite_neg (by simp [h3]) (Ev.ite_neg (by decide) (Ev.bind hm (Ev.ite_pos h9 hnext)))
      · have hc : clashL o a b p = true := by simp [clashL, Ne.symm h1, Ne.symm h2, h3]
        rw [hc]
        exact Ev.ite_neg (by simp [h3]) (Ev.ite_pos rfl hnext)
theorem mrg_l2 (i j : Nat) (hj : j ≤ 10000000) (p : ByteArray) (hnext : Ev (fun k => codesearchlaw25_TreeMergesT.l1 k o a b (mergeF o a b) (mergeC o a b) (mergeF o b a) all (i : Int) ((j + 1 : Nat) : Int)) true) :
    ∀ e (q : Nat) (f : Bool), q + e = (mergeC o a b).length → (f || decide (p ∈ (mergeC o a b).drop q)) = clashL o a b p → Ev (fun k => codesearchlaw25_TreeMergesT.l2 k o a b (mergeF o a b) (mergeC o a b) (mergeF o b a) all (i : Int) (j : Int) p (blobL o p) (blobL a p) (blobL b p) (blobL (mergeF o a b) p) f (q : Int)) true := by
  intro e
  induction e with
  | zero =>
    intro q f hq hf
    rw [List.drop_of_length_le (by omega)] at hf
    have hf2 : f = clashL o a b p := by simpa using hf
    subst hf2
    obtain rfl : q = (mergeC o a b).length := by omega
    exact mrg_end ho ha hb all hF hC i j hj p hnext
  | succ e ih =>
    intro q f hq hf
    have hlt : q < (mergeC o a b).length := by omega
    rw [drop_cons _ q hlt] at hf
    cases f with
    | true =>
      refine Ev.step (fun k => by rw [codesearchlaw25_TreeMergesT.l2, if_pos (show (q : Int) < ((mergeC o a b).length : Int) by omega), if_pos rfl, w1 q (by omega)]) (ih (q + 1) true (by omega) ?_)
      rw [Bool.true_or] at hf ⊢; exact hf
    | false =>
      refine Ev.step (fun k => by rw [codesearchlaw25_TreeMergesT.l2, if_pos (show (q : Int) < ((mergeC o a b).length : Int) by omega), if_neg (by decide), if_pos (by omega), rdOf_nat _ _ q hlt, w1 q (by omega)]) (ih (q + 1) _ (by omega) ?_)
      rw [← hf, Bool.false_or, Bool.eq_iff_iff]
      simp only [Bool.or_eq_true, beq_iff_eq, decide_eq_true_eq, List.mem_cons, toList_eq_iff]
      exact or_congr eq_comm Iff.rfl
include hall hal
theorem mrg_l1 (i : Nat) (hi : i < all.length) (hnext : Ev (fun k => codesearchlaw25_TreeMergesT.l0 k o a b (mergeF o a b) (mergeC o a b) (mergeF o b a) all ((i + 1 : Nat) : Int)) true) :
    ∀ e (j : Nat), j + e = all[i].length → Ev (fun k => codesearchlaw25_TreeMergesT.l1 k o a b (mergeF o a b) (mergeC o a b) (mergeF o b a) all (i : Int) (j : Int)) true := by
  have hli := hall _ (List.getElem_mem hi)
  intro e
  induction e with
  | zero =>
    intro j hj
    exact Ev.step (fun k => by rw [codesearchlaw25_TreeMergesT.l1, if_pos (show (0 : Int) ≤ (i : Int) by omega), if_pos (show (i : Int) < (all.length : Int) by omega), rdLs_nat all i hi, if_neg (by omega), w1 i (by omega)]) hnext
  | succ e ih =>
    intro j hj
    have hlt : j < all[i].length := by omega
    refine Ev.step (fun k => by rw [codesearchlaw25_TreeMergesT.l1, if_pos (show (0 : Int) ≤ (i : Int) by omega), if_pos (show (i : Int) < (all.length : Int) by omega), rdLs_nat all i hi, if_pos (show (j : Int) < (all[i].length : Int) by omega), if_pos (show (0 : Int) ≤ (j : Int) by omega), rdF_nat _ j hlt]) ?_
    generalize all[i][j].f0 = p
    refine Ev.bind (held_is o p (by omega)) (Ev.bind (held_is a p (by omega)) (Ev.bind (held_is b p (by omega)) (Ev.bind (held_is _ p (hF a b ha hb)) ?_)))
    refine Ev.congr (fun k => tree_eq (fun v => codesearchlaw25_TreeMergesT.j2 k o a b (mergeF o a b) (mergeC o a b) (mergeF o b a) all (i : Int) (j : Int) p (blobL o p) (blobL a p) (blobL b p) (blobL (mergeF o a b) p) v) (blobL o p) (blobL a p) (blobL b p) (blobL (mergeF o a b) p) (by rw [blob_merge]; rfl)) ?_
    refine Ev.step (fun k => by rw [codesearchlaw25_TreeMergesT.j2, if_neg (by decide)]) ?_
    exact mrg_l2 ho ha hb all hF hC i j (by omega) p (ih (j + 1) (by omega)) (mergeC o a b).length 0 false (by omega) (by rw [List.drop_zero, Bool.false_or, mem_mergeC])
theorem mrg_l0 : ∀ e (i : Nat), i + e = all.length → Ev (fun k => codesearchlaw25_TreeMergesT.l0 k o a b (mergeF o a b) (mergeC o a b) (mergeF o b a) all (i : Int)) true := by
  intro e
  induction e with
  | zero =>
    intro i hi
    refine Ev.step (f := fun _ => some true) (fun k => ?_) (Ev.now _)
    rw [codesearchlaw25_TreeMergesT.l0, if_neg (by omega)]
  | succ e ih =>
    intro i hi
    have hlt : i < all.length := by omega
    refine Ev.step (fun k => by rw [codesearchlaw25_TreeMergesT.l0, if_pos (show (i : Int) < (all.length : Int) by omega)]) ?_
    exact mrg_l1 ho ha hb all hall hal hF hC i hlt (ih (i + 1) (by omega)) all[i].length 0 (by omega)
end
theorem TreeMerges : StTreeMerges.Pure := by
  intro U o a b ho ha hb
  refine Ev.rounds (Ev.congr (fun k => rfl) (Ev.bind alive25 (Ev.ite_pos rfl ?_)))
  have hj : Ev (fun k => codesearchlaw25_TreeMerges.j0 k o a b true) true := by
    refine Ev.step (f := fun _ => some true) (fun k => ?_) (Ev.now _)
    rw [codesearchlaw25_TreeMerges.j0, if_pos rfl]
  by_cases h1 : (o.length : Int) > 60
  · exact Ev.ite_pos h1 hj
  refine Ev.ite_neg h1 ?_
  by_cases h2 : (a.length : Int) > 60
  · exact Ev.ite_pos h2 hj
  refine Ev.ite_neg h2 ?_
  by_cases h4 : (b.length : Int) > 60
  · exact Ev.ite_pos h4 hj
  refine Ev.ite_neg h4 (Ev.bind (trees_is o a b) ?_)
  by_cases h3 : rightM o = 0 ∧ rightM a = 0 ∧ rightM b = 0
  · rw [decide_eq_true h3]
    have tz := tree_of h3.1
    have ta := tree_of h3.2.1
    have tb := tree_of h3.2.2
    have hF : ∀ a b : FS, a.length ≤ 100 → b.length ≤ 100 → (mergeF o a b).length ≤ 1000000 := fun a b h5 h6 => by
      have hpl := pathsM_len3 o a b (by omega) (by omega) (by omega)
      rw [mergeF, List.length_map]
      have h1 := List.length_filter_le (fun s => decide (pickL o a b s ≠ 0)) (pathsM [contsM o, contsM a, contsM b])
      omega
    have hC : (mergeC o a b).length ≤ 1000000 := by
      have hpl := pathsM_len3 o a b (by omega) (by omega) (by omega)
      rw [mergeC]
      have h1 := List.length_filter_le (clashL o a b) (pathsM [contsM o, contsM a, contsM b])
      omega
    refine Ev.step (fun k => by rw [codesearchlaw25_TreeMerges.j0, if_neg (by decide)]) (Ev.bind_eq (Merge_is tz ta tb) (Ev.bind_eq (Merge_is tz tb ta) ?_))
    rw [mergeC_comm o a b]
    refine Ev.bind (Strings_self _ hC) (Ev.ite_pos rfl ?_)
    have hf1 := hF a b (by omega) (by omega)
    have hf2 := hF b a (by omega) (by omega)
    refine Ev.congr (fun k => rfl) (mrg_l0 (by omega) (by omega) (by omega) [o, a, b, mergeF o a b, mergeF o b a] (fun l hl => ?_) (by simp) hF hC 5 0 (by simp))
    simp only [List.mem_cons, List.not_mem_nil, or_false] at hl
    rcases hl with rfl | rfl | rfl | rfl | rfl <;> omega
  · rw [decide_eq_false h3]
    exact hj
end Go.Proofs.YtpnhamfodjfacaaDoor.Pure
