/- TreeBack, over lists alone. -/
import Derived.Test.YtpnhamfodjfacaaDoorStTreeBack
import Derived.Test.YtpnhamfodjfacaaDoorKQTrees25
import Derived.Test.YtpnhamfodjfacaaDoorKQApply25
namespace Go.Proofs.YtpnhamfodjfacaaDoor.Pure
open Go.RowKit Go.Proofs.YtpnhamfodjfacaaDoorW.PrintWords Go.Proofs.YtpnhamfodjfacaaDoorW.PrintLast Go.Proofs.YtpnhamfodjfacaaDoorW.PrintMore Go.Proofs.YtpnhamfodjfacaaDoor.K Go.Proofs.YtpnhamfodjfacaaDoor.Q
set_option linter.unusedVariables false
set_option linter.unusedSimpArgs false
def diffL (a b : FS) : List SC := ((pathsM [contsM a, contsM b]).filter fun s => decide (blobL a s ≠ blobL b s)).map fun s => ⟨s, blobL b s⟩
theorem diff_eq {a b : FS} (ha : Tree a) (hb : Tree b) : diffM (contsM a) (contsM b) = diffL a b := by
  unfold diffM
  simp only [val_tree ha, val_tree hb]
  rfl
theorem mem_path2 (a b : FS) (s : ByteArray) : s ∈ pathsM [contsM a, contsM b] ↔ (∃ f ∈ a, f.f0 = s) ∨ ∃ f ∈ b, f.f0 = s := by
  have := mem_paths [a, b] s
  simp only [List.map_cons, List.map_nil] at this
  rw [this]
  simp
theorem blob_zero {l : FS} {s : ByteArray} (h : ¬ ∃ f ∈ l, f.f0 = s) : blobL l s = 0 := blobL_none (fun f hf e => h ⟨f, hf, e⟩)
/-- Where the blobs are the same, the lists are. -/
theorem same_of_blobs {a b : FS} (ha : IncF a) (hb : IncF b) (za : ∀ f ∈ a, f.f1 ≠ 0) (zb : ∀ f ∈ b, f.f1 ≠ 0) (h : ∀ s, blobL a s = blobL b s) : a = b := by
  refine incF_ext ha hb (fun x => ?_)
  constructor
  · intro hx
    exact (blobL_mem_iff hb zb (za x hx)).1 ((h x.f0).symm.trans (blobL_mem ha hx))
  · intro hx
    exact (blobL_mem_iff ha za (zb x hx)).1 ((h x.f0).trans (blobL_mem hb hx))
theorem off_diff {a b : FS} {s : ByteArray} (h : s ∉ (diffL a b).map (·.f0)) : blobL a s = blobL b s := by
  rcases Classical.em (blobL a s = blobL b s) with e | e
  · exact e
  · refine absurd ?_ h
    rw [diffL, List.map_map, List.mem_map]
    refine ⟨s, List.mem_filter.2 ⟨(mem_path2 a b s).2 ?_, decide_eq_true e⟩, rfl⟩
    rcases Classical.em (∃ f ∈ a, f.f0 = s) with h1 | h1
    · exact .inl h1
    · rcases Classical.em (∃ f ∈ b, f.f0 = s) with h2 | h2
      · exact .inr h2
      · exact absurd ((blob_zero h1).trans (blob_zero h2).symm) e
theorem diff_nil {a b : FS} (ta : Tree a) (tb : Tree b) : diffL a b = [] ↔ a = b := by
  constructor
  · intro h
    refine same_of_blobs ta.inc tb.inc (fun f hf => by have := ta.blob f hf; omega) (fun f hf => by have := tb.blob f hf; omega) (fun s => off_diff (by rw [h]; simp))
  · rintro rfl
    rw [diffL, List.map_eq_nil_iff, List.filter_eq_nil_iff]
    intro s _; simp
theorem diff_inc (a b : FS) : (diffL a b).Pairwise fun x y => bl x.f0 < bl y.f0 := by
  rw [diffL, List.pairwise_map]
  exact (pathsM_inc _).filter _
theorem diff_len {a b : FS} (ta : Tree a) (tb : Tree b) : (diffL a b).length ≤ 1000000 := by
  have h0 := ta.len
  have h1 := tb.len
  have := pathsM_len3 [] a b (by simp) (by omega) (by omega)
  rw [paths_nil] at this
  rw [diffL, List.length_map]
  have h2 := List.length_filter_le (fun s => decide (blobL a s ≠ blobL b s)) (pathsM [contsM a, contsM b])
  omega
/-- Applying them leads to b. -/
theorem apply_diff {a b : FS} (ta : Tree a) (tb : Tree b) : ∀ (cs : List SC) {r : FS}, IncF r → (∀ f ∈ r, f.f1 ≠ 0) → cs.Pairwise (fun x y => bl x.f0 < bl y.f0) → (∀ c ∈ cs, c.f1 = blobL b c.f0 ∧ blobL r c.f0 ≠ blobL b c.f0) → (∀ s, s ∉ cs.map (·.f0) → blobL r s = blobL b s) → applyR r cs = some b
  | [], r, hi, hz, _, _, h => by
    rw [applyR, same_of_blobs hi tb.inc hz (fun f hf => by have := tb.blob f hf; omega) (fun s => h s (by simp))]
  | c :: cs, r, hi, hz, hp, hc, h => by
    have hp1 := List.pairwise_cons.1 hp
    obtain ⟨h1, h2⟩ := hc c List.mem_cons_self
    have hne : ∀ x ∈ cs, c.f0 ≠ x.f0 := fun x hx e => by have := hp1.1 x hx; rw [e] at this; exact List.lt_irrefl _ this
    have next : applyR (setM r c.f0 c.f1) cs = some b := by
      refine apply_diff ta tb cs (setM_inc hi _ _) (fun f hf => ?_) hp1.2 (fun x hx => ?_) (fun s hs => ?_)
      · rcases (mem_setM f).1 hf with ⟨e, rfl⟩ | ⟨e, _⟩
        · exact e
        · exact hz f e
      · obtain ⟨h3, h4⟩ := hc x (List.mem_cons_of_mem _ hx)
        rw [blob_set hi, if_neg (hne x hx)]
        exact ⟨h3, h4⟩
      · rw [blob_set hi]
        by_cases e : c.f0 = s
        · rw [if_pos e, h1, e]
        · rw [if_neg e]
          refine h s ?_
          rw [List.map_cons, List.mem_cons, not_or]
          exact ⟨fun e2 => e e2.symm, hs⟩
    rw [applyR]
    by_cases e : c.f1 = 0
    · rw [if_pos e, if_pos, ← e]
      · exact next
      · rw [there_iff]
        rcases Classical.em (∃ f ∈ r, f.f0 = c.f0) with h5 | h5
        · exact h5
        · rw [blob_zero h5, ← h1, e] at h2; exact absurd rfl h2
    · rw [if_neg e]; exact next
theorem TreeBack : StTreeBack.Pure := by
  intro U a b ha hb
  refine Ev.rounds (Ev.congr (fun k => rfl) (Ev.bind alive25 (Ev.ite_pos rfl ?_)))
  have hj : Ev (fun k => codesearchlaw25_TreeBack.j0 k a b true) true := by
    refine Ev.step (f := fun _ => some true) (fun k => ?_) (Ev.now _)
    rw [codesearchlaw25_TreeBack.j0, if_pos rfl]
  by_cases h1 : (a.length : Int) > 60
  · exact Ev.ite_pos h1 hj
  refine Ev.ite_neg h1 ?_
  by_cases h2 : (b.length : Int) > 60
  · exact Ev.ite_pos h2 hj
  refine Ev.ite_neg h2 (Ev.bind (trees_is a b []) ?_)
  by_cases h3 : rightM a = 0 ∧ rightM b = 0 ∧ rightM ([] : FS) = 0
  case neg => rw [decide_eq_false h3]; exact hj
  rw [decide_eq_true h3]
  have ta := tree_of h3.1
  have tb := tree_of h3.2.1
  have hdl := diff_len ta tb
  refine Ev.step (fun k => by rw [codesearchlaw25_TreeBack.j0, if_neg (by decide)]) (Ev.bind_eq (Diff_is ta tb) (Ev.bind_eq (Diff_is ta ta) ?_))
  rw [diff_eq ta tb, diff_eq ta ta, (diff_nil ta ta).2 rfl]
  refine Ev.ite_pos rfl (Ev.bind (Files_is a b (by omega)) ?_)
  have hx : (((diffL a b).length : Int) == 0) = decide (a = b) := by
    by_cases e : a = b
    · rw [decide_eq_true e, (diff_nil ta tb).2 e]; rfl
    · rw [decide_eq_false e, beq_eq_false_iff_ne]
      intro e2
      exact e ((diff_nil ta tb).1 (List.eq_nil_of_length_eq_zero (by omega)))
  rw [hx, bne_self_eq_false]
  refine Ev.step (fun k => by rw [codesearchlaw25_TreeBack.j1, if_neg (by decide)]) ?_
  have hpw := diff_inc a b
  have hap : applyR a (diffL a b) = some b := by
    refine apply_diff ta tb _ ta.inc (fun f hf => by have := ta.blob f hf; omega) hpw (fun c hc => ?_) (fun s hs => off_diff hs)
    rw [diffL, List.mem_map] at hc
    obtain ⟨s, hs, rfl⟩ := hc
    exact ⟨rfl, of_decide_eq_true (List.mem_filter.1 hs).2⟩
  have hcs : ∀ x ∈ diffL a b, x.f0.size ≤ 140737488351232 ∧ okI x.f1 = true := by
    intro x hx
    rw [diffL, List.mem_map] at hx
    obtain ⟨s, hs, rfl⟩ := hx
    have hsz : s.size ≤ 60 := by
      rcases (mem_path2 a b s).1 (List.mem_filter.1 hs).1 with ⟨f, hf, rfl⟩ | ⟨f, hf, rfl⟩
      · exact ta.size f hf
      · exact tb.size f hf
    refine ⟨by show s.size ≤ _; omega, ?_⟩
    rw [okI, Bool.and_eq_true, decide_eq_true_iff, decide_eq_true_iff]
    show -9223372036854775808 ≤ blobL b s ∧ blobL b s ≤ 9223372036854775807
    rcases Classical.em (∃ f ∈ b, f.f0 = s) with ⟨f, hf, rfl⟩ | h5
    · rw [blobL_mem tb.inc hf]
      have := tb.blob f hf
      omega
    · rw [blob_zero h5]; omega
  generalize diffL a b = d at hdl hpw hap hcs
  have key : ∀ e (i : Nat), i + e = d.length ∨ (e = 0 ∧ d.length ≤ i) → 1 ≤ i → Ev (fun k => codesearchlaw25_TreeBack.l0 k a b d (i : Int)) true := by
    intro e
    induction e with
    | zero =>
      intro i hi h1
      refine Ev.step (fun k => by rw [codesearchlaw25_TreeBack.l0, if_neg (by omega)]) ?_
      by_cases h16 : (d.length : Int) > 16
      · exact Ev.ite_pos h16 (Ev.now _)
      refine Ev.ite_neg h16 (Ev.bind (Apply_is a d (fun f hf => by have := ta.size f hf; omega) hcs) ?_)
      have ho : applyOut a d = (b, 0) := by
        rw [applyOut, if_pos h3.1, if_neg (by omega), hap]
        exact if_pos h3.2.1
      rw [ho]
      refine Ev.ite_pos rfl (Ev.bind (Files_is b b (by omega)) ?_)
      rw [decide_eq_true rfl]
      exact Ev.now _
    | succ e ih =>
      intro i hi h1
      have hi' : i + (e + 1) = d.length := hi.resolve_right (fun h => by omega)
      have hlt : i < d.length := by omega
      have hw : wrap64 ((i : Int) - 1) = ((i - 1 : Nat) : Int) := by rw [w64 (by omega) (by omega)]; omega
      refine Ev.step (fun k => by rw [codesearchlaw25_TreeBack.l0, if_pos (show (i : Int) < (d.length : Int) by omega), if_pos (by omega), hw, if_pos (by omega), if_pos (by omega), rdC_nat d (i - 1) (by omega), rdC_nat d i hlt, w1 i (by omega)]) ?_
      have h5 := List.pairwise_iff_getElem.1 hpw (i - 1) i (by omega) hlt (by omega)
      exact Ev.ite_pos ((less_iff _ _).2 h5) (ih (i + 1) (.inl (by omega)) (by omega))
  exact key (d.length - 1) 1 (by omega) (Nat.le_refl _)
end Go.Proofs.YtpnhamfodjfacaaDoor.Pure
