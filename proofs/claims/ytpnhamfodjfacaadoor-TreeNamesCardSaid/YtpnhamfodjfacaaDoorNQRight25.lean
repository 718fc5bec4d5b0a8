/- Right: what the program's and the document's answer; what a tree is. -/
import Derived.Test.YtpnhamfodjfacaaDoorNQRPath25
import Derived.Sort.Walk0
import Derived.Test.YtpnhamfodjfacaaDoorNx5
import Derived.Test.YtpnhamfodjfacaaDoorNx11
namespace Go.Proofs.YtpnhamfodjfacaaDoor.Q
open Go.RowKit Go.Proofs.YtpnhamfodjfacaaDoorW.PrintWords Go.Proofs.YtpnhamfodjfacaaDoorW.PrintLast Go.Proofs.YtpnhamfodjfacaaDoorW.PrintMore Go.Proofs.YtpnhamfodjfacaaDoor.N
set_option linter.unusedVariables false
set_option linter.unusedSimpArgs false
abbrev FS := List S45
theorem rdF_nat (l : FS) (i : Nat) (h : i < l.length) : rd_T45 l (i : Int) = l[i] := by
  simp [rd_T45, List.getD_eq_getElem?_getD, List.getElem?_eq_getElem h]
theorem less_iff (a b : ByteArray) : (Op.bytesLess a.toList b.toList = true) ↔ bl a < bl b := by
  rw [bytesLess_eq, toList_bl, toList_bl, decide_eq_true_iff]
/-- Some path of the list (but the one at place i; from place k on) is a directory of p. -/
def anyUnder (l : FS) (i : Nat) (k : Nat) : Bool := (List.range (l.length - k)).any fun q => decide (k + q ≠ i) && underP (l.getD i ⟨⟨#[]⟩, 0⟩).f0 (l.getD (k + q) ⟨⟨#[]⟩, 0⟩).f0
theorem anyUnder_end (l : FS) (i k : Nat) (h : l.length ≤ k) : anyUnder l i k = false := by
  rw [anyUnder, Nat.sub_eq_zero_of_le h]; rfl
theorem getD_at (l : FS) (i : Nat) (h : i < l.length) : l.getD i ⟨⟨#[]⟩, 0⟩ = l[i] := by
  rw [List.getD_eq_getElem?_getD, List.getElem?_eq_getElem h]; rfl
theorem anyUnder_step (l : FS) (i k : Nat) (hi : i < l.length) (h : k < l.length) : anyUnder l i k = ((decide (k ≠ i) && underP l[i].f0 l[k].f0) || anyUnder l i (k + 1)) := by
  rw [anyUnder, anyUnder, show l.length - k = (l.length - (k + 1)) + 1 by omega, List.range_succ_eq_map, List.any_cons, Nat.add_zero, getD_at l i hi, getD_at l k h, List.any_map]
  congr 1
  apply List.any_congr rfl
  intro q
  simp only [Function.comp]
  rw [show k + (q + 1) = k + 1 + q by omega]
/-- What is wrong at place i. -/
def errAt (l : FS) (i : Nat) : Int :=
  if validP (l.getD i ⟨⟨#[]⟩, 0⟩).f0 = false then 3
  else if (l.getD i ⟨⟨#[]⟩, 0⟩).f1 < 1 ∨ (l.getD i ⟨⟨#[]⟩, 0⟩).f1 > 9999 then 2
  else if 0 < i ∧ ¬ bl (l.getD (i - 1) ⟨⟨#[]⟩, 0⟩).f0 < bl (l.getD i ⟨⟨#[]⟩, 0⟩).f0 then 7
  else if anyUnder l i 0 = true then 14 else 0
def errFrom (l : FS) : Nat → Nat → Int
  | 0, _ => 0
  | d + 1, i => if errAt l i = 0 then errFrom l d (i + 1) else errAt l i
def rightM (l : FS) : Int := if l.length > 32 then 4 else errFrom l l.length 0
theorem R_l1 (l : FS) (i : Nat) (hi : i < l.length) (hl : l.length ≤ 100000) (hs : ∀ f ∈ l, f.f0.size ≤ 140737488351232) (r : Int) (hr : Ev (fun k => tree_Right.l0 k l l (l.length : Int) ((i + 1 : Nat) : Int)) r) :
    ∀ d (j : Nat), j + d = l.length → Ev (fun k => tree_Right.l1 k l (i : Int) l (l.length : Int) (i : Int) l (l.length : Int) (j : Int) l[i].f0 l[i].f1) (if anyUnder l i j = true then 14 else r) := by
  intro d
  have hw : ∀ j : Nat, j ≤ 100000 → wrap64 ((j : Int) + 1) = ((j + 1 : Nat) : Int) := fun j hj => by rw [w64 (by omega) (by omega)]; rfl
  induction d with
  | zero =>
    intro j hj
    rw [anyUnder_end l i j (by omega), if_neg (by decide)]
    refine Ev.step (fun k => ?_) hr
    rw [tree_Right.l1, if_neg (by omega), hw i (by omega)]
  | succ d ih =>
    intro j hj
    have hlt : j < l.length := by omega
    rw [anyUnder_step l i j hi hlt]
    refine Ev.step (fun k => by rw [tree_Right.l1, if_pos (by omega), if_pos (by omega), if_pos (by omega), rdF_nat l j hlt, hw j (by omega)]) ?_
    by_cases h : j = i
    · rw [decide_eq_false (not_not_intro h), Bool.false_and, Bool.false_or]
      exact Ev.ite_pos (by omega) (ih (j + 1) (by omega))
    · rw [decide_eq_true h, Bool.true_and]
      refine Ev.ite_neg (by omega) (Ev.bind_eq (Under_is l[i].f0 l[j].f0 (hs _ (List.getElem_mem _))) ?_)
      by_cases h2 : underP l[i].f0 l[j].f0 = true
      · rw [h2]
        exact Ev.ite_pos rfl (Ev.now _)
      · rw [Bool.eq_false_iff.2 h2, Bool.false_or]
        exact Ev.ite_neg (by simp) (ih (j + 1) (by omega))
theorem errAt_at (l : FS) (i : Nat) (hi : i < l.length) : errAt l i = if validP l[i].f0 = false then 3 else if l[i].f1 < 1 ∨ l[i].f1 > 9999 then 2 else if 0 < i ∧ ¬ bl (l[i - 1]'(by omega)).f0 < bl l[i].f0 then 7 else if anyUnder l i 0 = true then 14 else 0 := by
  rw [errAt, getD_at l i hi, getD_at l (i - 1) (by omega)]
theorem R_l0 (l : FS) (hl : l.length ≤ 100000) (hs : ∀ f ∈ l, f.f0.size ≤ 140737488351232) : ∀ d (i : Nat), i + d = l.length → Ev (fun k => tree_Right.l0 k l l (l.length : Int) (i : Int)) (errFrom l d i) := by
  intro d
  induction d with
  | zero =>
    intro i hi
    refine Ev.step (f := fun _ => some 0) (fun k => ?_) (Ev.now _)
    rw [tree_Right.l0, if_neg (by omega)]
  | succ d ih =>
    intro i hi
    have hlt : i < l.length := by omega
    have hn := ih (i + 1) (by omega)
    rw [errFrom, errAt_at l i hlt]
    refine Ev.step (fun k => by rw [tree_Right.l0, if_pos (by omega), if_pos (by omega), if_pos (by omega), rdF_nat l i hlt]) (Ev.bind (ValidPath_is _) ?_)
    by_cases h1 : validP l[i].f0 = false
    · rw [h1, if_pos rfl, if_neg (by decide)]
      exact Ev.ite_neg (by decide) (Ev.now _)
    have h1' : validP l[i].f0 = true := by simpa using h1
    rw [h1', if_neg (show ¬ (true = false) by decide)]
    refine Ev.ite_pos rfl ?_
    by_cases h2 : l[i].f1 < 1 ∨ l[i].f1 > 9999
    · rw [if_pos h2, if_neg (by decide)]
      have hj : Ev (fun k => tree_Right.j1 k l (i : Int) l (l.length : Int) (i : Int) true l[i].f0 l[i].f1) 2 := by
        refine Ev.step (f := fun _ => some 2) (fun k => ?_) (Ev.now _)
        rw [tree_Right.j1, if_pos rfl]
      rcases h2 with h2 | h2
      · exact Ev.ite_pos h2 hj
      · refine Ev.ite_neg (by omega) ?_
        rw [decide_eq_true h2]
        exact hj
    rw [if_neg h2]
    rw [not_or] at h2
    refine Ev.ite_neg h2.1 ?_
    rw [decide_eq_false h2.2]
    refine Ev.step (fun k => by rw [tree_Right.j1, if_neg (by decide)]) ?_
    have hj2 : Ev (fun k => tree_Right.j2 k l (i : Int) l (l.length : Int) (i : Int) l[i].f0 l[i].f1) (if (if anyUnder l i 0 = true then (14 : Int) else 0) = 0 then errFrom l d (i + 1) else if anyUnder l i 0 = true then 14 else 0) := by
      refine Ev.step (fun k => by rw [tree_Right.j2]) ?_
      have := R_l1 l i hlt hl hs _ hn l.length 0 (by omega)
      by_cases h4 : anyUnder l i 0 = true
      · rw [if_pos h4] at this ⊢
        exact this
      · rw [if_neg h4] at this ⊢
        exact this
    by_cases h3 : 0 < i
    · have hw : wrap64 ((i : Int) - 1) = ((i - 1 : Nat) : Int) := by rw [w64 (by omega) (by omega)]; omega
      refine Ev.ite_pos (by omega) ?_
      rw [hw]
      refine Ev.ite_pos (by omega) (Ev.ite_pos (by omega) ?_)
      rw [rdF_nat l (i - 1) (by omega)]
      by_cases h5 : bl l[i - 1].f0 < bl l[i].f0
      · rw [if_neg (show ¬ (0 < i ∧ ¬ bl (l[i - 1]'(by omega)).f0 < bl l[i].f0) from fun h => h.2 h5)]
        exact Ev.ite_pos ((less_iff _ _).2 h5) hj2
      · rw [if_pos (show 0 < i ∧ ¬ bl (l[i - 1]'(by omega)).f0 < bl l[i].f0 from ⟨h3, h5⟩), if_neg (show ¬ (7 : Int) = 0 by decide)]
        exact Ev.ite_neg (fun h => h5 ((less_iff _ _).1 h)) (Ev.now _)
    · rw [if_neg (show ¬ (0 < i ∧ ¬ bl (l[i - 1]'(by omega)).f0 < bl l[i].f0) from fun h => h3 h.1)]
      exact Ev.ite_neg (by omega) hj2
theorem Right_is (l : FS) (hs : ∀ f ∈ l, f.f0.size ≤ 140737488351232) : Ev (fun k => tree_Right.f k l) (rightM l) := by
  by_cases h : (l.length : Int) > 32
  · refine Ev.congr (fun k => ?_) (Ev.now _)
    rw [tree_Right.f, if_pos h, rightM, if_pos (by omega)]
  · refine Ev.congr (fun k => by rw [tree_Right.f, if_neg h]) ?_
    rw [rightM, if_neg (by omega)]
    exact R_l0 l (by omega) hs l.length 0 (by omega)
/-! ### The document's Right -/
theorem rR_l1 (l : FS) (i : Nat) (hi : i < l.length) (hl : l.length ≤ 100000) (r : Int) (hr : Ev (fun k => codesearchref25_Right.l0 k l ((i + 1 : Nat) : Int)) r) :
    ∀ d (j : Nat), j + d = l.length → Ev (fun k => codesearchref25_Right.l1 k l (i : Int) (j : Int)) (if anyUnder l i j = true then 14 else r) := by
  intro d
  have hw : ∀ j : Nat, j ≤ 100000 → wrap64 ((j : Int) + 1) = ((j + 1 : Nat) : Int) := fun j hj => by rw [w64 (by omega) (by omega)]; rfl
  induction d with
  | zero =>
    intro j hj
    rw [anyUnder_end l i j (by omega), if_neg (by decide)]
    refine Ev.step (fun k => ?_) hr
    rw [codesearchref25_Right.l1, if_neg (by omega), hw i (by omega)]
  | succ d ih =>
    intro j hj
    have hlt : j < l.length := by omega
    rw [anyUnder_step l i j hi hlt]
    refine Ev.step (fun k => by rw [codesearchref25_Right.l1, if_pos (by omega), hw j (by omega)]) ?_
    by_cases h : j = i
    · rw [decide_eq_false (not_not_intro h), Bool.false_and, Bool.false_or]
      exact Ev.ite_pos (by omega) (ih (j + 1) (by omega))
    · rw [decide_eq_true h, Bool.true_and]
      refine Ev.ite_neg (by omega) (Ev.ite_pos (by omega) (Ev.ite_pos (by omega) (Ev.ite_pos (by omega) ?_)))
      rw [rdF_nat l j hlt, rdF_nat l i hi]
      refine Ev.bind_eq (rUnder_is l[i].f0 l[j].f0) ?_
      by_cases h2 : underP l[i].f0 l[j].f0 = true
      · rw [h2]
        exact Ev.ite_pos rfl (Ev.now _)
      · rw [Bool.eq_false_iff.2 h2, Bool.false_or]
        exact Ev.ite_neg (by simp) (ih (j + 1) (by omega))
theorem rR_l0 (l : FS) (hl : l.length ≤ 100000) : ∀ d (i : Nat), i + d = l.length → Ev (fun k => codesearchref25_Right.l0 k l (i : Int)) (errFrom l d i) := by
  intro d
  induction d with
  | zero =>
    intro i hi
    refine Ev.step (f := fun _ => some 0) (fun k => ?_) (Ev.now _)
    rw [codesearchref25_Right.l0, if_neg (by omega)]
  | succ d ih =>
    intro i hi
    have hlt : i < l.length := by omega
    have hn := ih (i + 1) (by omega)
    rw [errFrom, errAt_at l i hlt]
    refine Ev.step (fun k => by rw [codesearchref25_Right.l0, if_pos (by omega), if_pos (by omega), rdF_nat l i hlt]) (Ev.bind (rValidPath_is _) ?_)
    by_cases h1 : validP l[i].f0 = false
    · rw [h1, if_pos rfl, if_neg (by decide)]
      exact Ev.ite_neg (by decide) (Ev.now _)
    have h1' : validP l[i].f0 = true := by simpa using h1
    rw [h1', if_neg (show ¬ (true = false) by decide)]
    refine Ev.ite_pos rfl ?_
    by_cases h2 : l[i].f1 < 1 ∨ l[i].f1 > 9999
    · rw [if_pos h2, if_neg (by decide)]
      have hj : Ev (fun k => codesearchref25_Right.j1 k l (i : Int) true) 2 := by
        refine Ev.step (f := fun _ => some 2) (fun k => ?_) (Ev.now _)
        rw [codesearchref25_Right.j1, if_pos rfl]
      rcases h2 with h2 | h2
      · exact Ev.ite_pos h2 hj
      · refine Ev.ite_neg (by omega) ?_
        rw [decide_eq_true h2]
        exact hj
    rw [if_neg h2]
    rw [not_or] at h2
    refine Ev.ite_neg h2.1 ?_
    rw [decide_eq_false h2.2]
    refine Ev.step (fun k => by rw [codesearchref25_Right.j1, if_neg (by decide)]) ?_
    have hj2 : Ev (fun k => codesearchref25_Right.j2 k l (i : Int) false) (if (if anyUnder l i 0 = true then (14 : Int) else 0) = 0 then errFrom l d (i + 1) else if anyUnder l i 0 = true then 14 else 0) := by
      refine Ev.step (fun k => by rw [codesearchref25_Right.j2, if_neg (by decide)]) ?_
      have := rR_l1 l i hlt hl _ hn l.length 0 (by omega)
      by_cases h4 : anyUnder l i 0 = true
      · rw [if_pos h4] at this ⊢
        exact this
      · rw [if_neg h4] at this ⊢
        exact this
    by_cases h3 : 0 < i
    · have hw : wrap64 ((i : Int) - 1) = ((i - 1 : Nat) : Int) := by rw [w64 (by omega) (by omega)]; omega
      refine Ev.ite_pos (by omega) (Ev.ite_pos (by omega) (Ev.ite_pos (by omega) ?_))
      rw [hw]
      refine Ev.ite_pos (by omega) (Ev.ite_pos (by omega) ?_)
      rw [rdF_nat l (i - 1) (by omega), rdF_nat l i hlt]
      by_cases h5 : bl l[i - 1].f0 < bl l[i].f0
      · rw [if_neg (show ¬ (0 < i ∧ ¬ bl (l[i - 1]'(by omega)).f0 < bl l[i].f0) from fun h => h.2 h5), (less_iff _ _).2 h5, Bool.not_true]
        exact hj2
      · rw [if_pos (show 0 < i ∧ ¬ bl (l[i - 1]'(by omega)).f0 < bl l[i].f0 from ⟨h3, h5⟩), if_neg (show ¬ (7 : Int) = 0 by decide), Bool.eq_false_iff.2 (fun h => h5 ((less_iff _ _).1 h)), Bool.not_false]
        refine Ev.step (f := fun _ => some 7) (fun k => ?_) (Ev.now _)
        rw [codesearchref25_Right.j2, if_pos rfl]
    · rw [if_neg (show ¬ (0 < i ∧ ¬ bl (l[i - 1]'(by omega)).f0 < bl l[i].f0) from fun h => h3 h.1)]
      exact Ev.ite_neg (by omega) hj2
theorem rRight_is (l : FS) : Ev (fun k => codesearchref25_Right.f k l) (rightM l) := by
  by_cases h : (l.length : Int) > 32
  · refine Ev.congr (fun k => ?_) (Ev.now _)
    rw [codesearchref25_Right.f, if_pos h, rightM, if_pos (by omega)]
  · refine Ev.congr (fun k => by rw [codesearchref25_Right.f, if_neg h]) ?_
    rw [rightM, if_neg (by omega)]
    exact rR_l0 l (by omega) l.length 0 (by omega)
/-! ### What a tree is -/
/-- The paths are in increasing order. -/
def IncF (l : FS) : Prop := l.Pairwise fun a b => bl a.f0 < bl b.f0
theorem errFrom_zero {l : FS} : ∀ {d i : Nat}, errFrom l d i = 0 → ∀ j, i ≤ j → j < i + d → errAt l j = 0
  | 0, i, _, j, h1, h2 => by omega
  | d + 1, i, h, j, h1, h2 => by
    rw [errFrom] at h
    by_cases e : errAt l i = 0
    · rw [if_pos e] at h
      rcases Nat.lt_or_ge i j with h3 | h3
      · exact errFrom_zero h j h3 (by omega)
      · obtain rfl : i = j := by omega
        exact e
    · rw [if_neg e] at h; exact absurd h e
theorem errAt_zero {l : FS} {i : Nat} (hi : i < l.length) (h : errAt l i = 0) : validP l[i].f0 = true ∧ 1 ≤ l[i].f1 ∧ l[i].f1 ≤ 9999 ∧ (0 < i → bl (l[i - 1]'(by omega)).f0 < bl l[i].f0) ∧ anyUnder l i 0 = false := by
  rw [errAt_at l i hi] at h
  by_cases h1 : validP l[i].f0 = false
  · rw [if_pos h1] at h; omega
  rw [if_neg h1] at h
  by_cases h2 : l[i].f1 < 1 ∨ l[i].f1 > 9999
  · rw [if_pos h2] at h; omega
  rw [if_neg h2] at h
  by_cases h3 : 0 < i ∧ ¬ bl (l[i - 1]'(by omega)).f0 < bl l[i].f0
  · rw [if_pos h3] at h; omega
  rw [if_neg h3] at h
  by_cases h4 : anyUnder l i 0 = true
  · rw [if_pos h4] at h; omega
  refine ⟨by simpa using h1, by omega, by omega, fun hp => ?_, by simpa using h4⟩
  rcases Classical.em (bl (l[i - 1]'(by omega)).f0 < bl l[i].f0) with e | e
  · exact e
  · exact absurd ⟨hp, e⟩ h3
structure Tree (l : FS) : Prop where
  inc : IncF l
  len : l.length ≤ 32
  size : ∀ f ∈ l, f.f0.size ≤ 60
  blob : ∀ f ∈ l, 1 ≤ f.f1 ∧ f.f1 ≤ 9999
theorem tree_of {l : FS} (h : rightM l = 0) : Tree l := by
  unfold rightM at h
  by_cases hl : l.length > 32
  · rw [if_pos hl] at h; omega
  rw [if_neg hl] at h
  have ha : ∀ i (hi : i < l.length), _ := fun i hi => errAt_zero hi (errFrom_zero h i (Nat.zero_le _) (by omega))
  refine ⟨?_, by omega, fun f hf => ?_, fun f hf => ?_⟩
  · have adj : ∀ d i (hi : i + d + 1 < l.length), bl (l[i]'(by omega)).f0 < bl (l[i + d + 1]'hi).f0 := by
      intro d
      induction d with
      | zero => intro i hi; exact (ha (i + 1) hi).2.2.2.1 (by omega)
      | succ d ih =>
        intro i hi
        exact List.lt_trans (ih i (by omega)) ((ha (i + d + 1 + 1) hi).2.2.2.1 (by omega))
    rw [IncF, List.pairwise_iff_getElem]
    intro i j hi hj hij
    have := adj (j - i - 1) i (by omega)
    simp only [show i + (j - i - 1) + 1 = j by omega] at this
    exact this
  · obtain ⟨i, hi, rfl⟩ := List.mem_iff_getElem.1 hf
    have := (ha i hi).1
    rw [validP, Bool.and_eq_true, decide_eq_true_iff] at this
    exact this.1
  · obtain ⟨i, hi, rfl⟩ := List.mem_iff_getElem.1 hf
    exact ⟨(ha i hi).2.1, (ha i hi).2.2.1⟩
end Go.Proofs.YtpnhamfodjfacaaDoor.Q
