/- ManifestStarts, over lists alone. -/
import Derived.Test.YtmgliocboeifdaaDoorStManifestStarts
import Derived.Test.YtmgliocboeifdaaDoorMQSmall33
import Derived.Test.YtmgliocboeifdaaDoorMQBr33
import Derived.Test.YtmgliocboeifdaaDoorMQAlive33
namespace Go.Proofs.YtmgliocboeifdaaDoor.Pure
open Go.RowKit Go.Proofs.YtmgliocboeifdaaDoorW.PrintWords Go.Proofs.YtmgliocboeifdaaDoorW.PrintLast Go.Proofs.YtmgliocboeifdaaDoorW.PrintMore Go.Proofs.YtmgliocboeifdaaDoor.M Go.Proofs.YtmgliocboeifdaaDoor.Q
set_option linter.unusedVariables false
set_option linter.unusedSimpArgs false
theorem rightGo_take (br : List ByteArray → Bool) : ∀ (l : List SE) (s : ST) (i n : Nat), rightGo br s i l = 0 → rightGo br s i (l.take n) = 0 := by
  intro l
  induction l with
  | nil => intro s i n h; rw [List.take_nil]; exact h
  | cons e l ih =>
    intro s i n h
    cases n with
    | zero => rw [List.take_zero, rightGo]
    | succ n =>
      rw [List.take_succ_cons, rightGo]
      rw [rightGo] at h
      by_cases c : checkM br s i e = 0
      · rw [if_pos c] at h ⊢
        exact ih _ _ _ h
      · rw [if_neg c] at h
        exact absurd h c
/-- The entry adds the segment n. -/
def adds (n : Int) (e : SE) : Bool := (decide (e.f1 = 1) || decide (e.f1 = 3)) && e.f2 == n
theorem after_adds (s : ST) (e : SE) (n : Int) (h : n ∈ (afterM s e).1) : n ∈ s.1 ∨ adds n e = true := by
  unfold afterM at h
  by_cases c1 : e.f1 = 1
  · rw [if_pos c1, mem_orS, List.mem_singleton] at h
    exact h.imp id (fun h2 => by rw [adds, c1, h2]; simp)
  rw [if_neg c1] at h
  by_cases c2 : e.f1 = 2
  · rw [if_pos c2] at h
    exact .inl h
  rw [if_neg c2] at h
  by_cases c3 : e.f1 = 3
  · rw [if_pos c3, mem_orS, mem_minusS, List.mem_singleton] at h
    exact h.imp (·.1) (fun h2 => by rw [adds, c3, h2]; simp)
  · rw [if_neg c3] at h
    exact .inl h
theorem run_adds (l : List SE) (n : Int) (h : n ∈ (runM l).1) : l.any (adds n) = true := by
  have : ∀ (l : List SE) (s : ST), n ∈ (l.foldl afterM s).1 → n ∈ s.1 ∨ l.any (adds n) = true := by
    intro l
    induction l with
    | nil => exact fun s h => .inl h
    | cons e l ih =>
      intro s h
      rw [List.any_cons, Bool.or_eq_true]
      rcases ih _ h with h | h
      · rcases after_adds s e n h with h | h
        · exact .inl h
        · exact .inr (.inl h)
      · exact .inr (.inr h)
  exact (this l _ h).resolve_left (by simp)
theorem loop1 (l : List SE) (m : List Int) (i : Nat) (hi : i < m.length) (hl : l.length ≤ 1000) (hm : m.length ≤ 1000000) (hs : m.Pairwise (· < ·)) (r : Bool) (next : Ev (fun k => codesearchlaw33_ManifestStarts.l0 k l m ((i + 1 : Nat) : Int)) r) :
    ∀ d (j : Nat) (a : Bool), j + d = l.length → (a || (l.drop j).any (adds m[i])) = true → Ev (fun k => codesearchlaw33_ManifestStarts.l1 k l m (i : Int) a (j : Int)) r := by
  intro d
  induction d with
  | zero =>
    intro j a hj h
    rw [List.drop_of_length_le (by omega), List.any_nil, Bool.or_false] at h
    subst h
    refine Ev.step (fun k => by rw [codesearchlaw33_ManifestStarts.l1, if_neg (show ¬ (j : Int) < (l.length : Int) by omega), if_pos rfl, w1 i (by omega)]) ?_
    cases i with
    | zero => exact Ev.ite_neg (by simp) next
    | succ p =>
      have hp : p < m.length := by omega
      have hlt : m[p] < m[p + 1] := List.pairwise_iff_getElem.1 hs p (p + 1) hp hi (by omega)
      refine Ev.ite_pos (show ((p + 1 : Nat) : Int) > 0 by omega) ?_
      refine Ev.congr (fun k => by rw [show wrap64 (((p + 1 : Nat) : Int) - 1) = ((p : Nat) : Int) from (w64 (by omega) (by omega)).trans (by omega), if_pos (show (0 : Int) ≤ ((p + 1 : Nat) : Int) by omega), if_pos (show ((p + 1 : Nat) : Int) < (m.length : Int) by omega), if_pos (show (0 : Int) ≤ (p : Int) by omega), if_pos (show (p : Int) < (m.length : Int) by omega), rd_nat m p hp, rd_nat m (p + 1) hi, if_neg (show ¬ m[p + 1] ≤ m[p] by omega)]) ?_
      exact next
  | succ d ih =>
    intro j a hj h
    have hlt : j < l.length := by omega
    rw [drop_cons l j hlt, List.any_cons] at h
    cases a with
    | true =>
      refine Ev.step (fun k => by rw [codesearchlaw33_ManifestStarts.l1, if_pos (show (j : Int) < (l.length : Int) by omega), if_pos rfl, w1 j (by omega)]) ?_
      exact ih (j + 1) true (by omega) (by simp)
    | false =>
      rw [Bool.false_or] at h
      have nx := ih (j + 1) (adds m[i] l[j]) (by omega) h
      refine Ev.step (fun k => by rw [codesearchlaw33_ManifestStarts.l1, if_pos (show (j : Int) < (l.length : Int) by omega), if_neg (by decide), if_pos (show (0 : Int) ≤ (j : Int) by omega), rdE_nat l j hlt, rd_nat m i hi, w1 j (by omega), if_pos (show (0 : Int) ≤ (i : Int) by omega), if_pos (show (i : Int) < (m.length : Int) by omega)]) ?_
      by_cases c1 : l[j].f1 = 1
      · refine Ev.ite_pos c1 ?_
        rw [show adds m[i] l[j] = (l[j].f2 == m[i]) by rw [adds, decide_eq_true c1, Bool.true_or, Bool.true_and]] at nx
        exact nx
      refine Ev.ite_neg c1 ?_
      by_cases c3 : l[j].f1 = 3
      · refine Ev.ite_pos c3 ?_
        rw [show adds m[i] l[j] = (l[j].f2 == m[i]) by rw [adds, decide_eq_true c3, Bool.or_true, Bool.true_and]] at nx
        exact nx
      · refine Ev.ite_neg c3 ?_
        rw [show adds m[i] l[j] = false by rw [adds, decide_eq_false c1, decide_eq_false c3]; rfl] at nx
        exact nx
theorem loop0 (l : List SE) (m : List Int) (hl : l.length ≤ 1000) (hm : m.length ≤ 1000000) (hs : m.Pairwise (· < ·)) (ha : ∀ n ∈ m, l.any (adds n) = true) : Ev (fun k => codesearchlaw33_ManifestStarts.l0 k l m 0) true := by
  have key : ∀ d (i : Nat), i + d = m.length → Ev (fun k => codesearchlaw33_ManifestStarts.l0 k l m (i : Int)) true := by
    intro d
    induction d with
    | zero =>
      intro i hi
      refine Ev.step (f := fun _ => some true) (fun k => ?_) (Ev.now _)
      rw [codesearchlaw33_ManifestStarts.l0, if_neg (show ¬ (i : Int) < (m.length : Int) by omega)]
    | succ d ih =>
      intro i hi
      have hlt : i < m.length := by omega
      refine Ev.step (fun k => by rw [codesearchlaw33_ManifestStarts.l0, if_pos (show (i : Int) < (m.length : Int) by omega)]) ?_
      exact loop1 l m i hlt hl hm hs true (ih (i + 1) (by omega)) l.length 0 false (by omega) (by rw [List.drop_zero, Bool.false_or]; exact ha _ (List.getElem_mem _))
  exact key m.length 0 (by omega)
theorem ManifestStarts : StManifestStarts.Pure := by
  intro U l n hl hn
  have hn := wf_u8.1 hn
  refine Ev.rounds (Ev.congr (fun k => rfl) (Ev.bind alive33 (Ev.ite_pos rfl (Ev.bind (small_is l) ?_))))
  by_cases hs : smallM l = true
  · rw [hs]
    obtain ⟨h1, h2⟩ := small_fit hs
    obtain ⟨h3, h4⟩ := small_all hs
    have hb : ∀ e ∈ l, e.f1 = 4 → Ev (fun k => manifest_branches.f k e.f5) (branchesM e.f5) := fun e he _ => branches_is _ (by have := (h4 e he).2.2; omega)
    have hlen := runM_len l 1000 h2
    have hlen2 : l.length * 1000 ≤ 1000 * 1000 := Nat.mul_le_mul_right _ h1
    have tail : Ev (fun k => codesearchlaw33_ManifestStarts.j0 k l false) true := by
      refine Ev.step (fun k => by rw [codesearchlaw33_ManifestStarts.j0, if_neg (by decide)]) (Ev.bind (Live_is l h1 h2) ?_)
      exact loop0 l _ h1 (by omega) (runM_srt l).1 (fun n hn => run_adds l n hn)
    have hw : wrap64 ((l.length : Int) + 1) = ((l.length + 1 : Nat) : Int) := w1 _ (by omega)
    obtain ⟨q, hq, hq2⟩ : ∃ q : Nat, Int.tmod (wrap64 n) (wrap64 ((l.length : Int) + 1)) = (q : Int) ∧ q ≤ l.length := by
      obtain ⟨v, hv⟩ : ∃ v : Nat, n = (v : Int) := ⟨n.toNat, by omega⟩
      refine ⟨v % (l.length + 1), ?_, Nat.le_of_lt_succ (Nat.mod_lt _ (Nat.succ_pos _))⟩
      rw [hw, w64 (by omega) (by omega), hv]
      rfl
    refine Ev.ite_pos rfl (Ev.ite_neg (by rw [hw]; omega) (Ev.bind (Right_is branchesM l h1 h2 hb) ?_))
    by_cases c : rightM branchesM l = 0
    · refine Ev.ite_pos c ?_
      rw [hq]
      refine Ev.ite_pos (show (0 : Int) ≤ (q : Int) by omega) (Ev.ite_pos (show (q : Int) ≤ (l.length : Int) by omega) ?_)
      have hR := Right_is branchesM (l.take q) (by rw [List.length_take]; omega) (fun e he => h2 e (List.mem_of_mem_take he)) (fun e he => hb e (List.mem_of_mem_take he))
      refine Ev.bind hR ?_
      rw [show rightM branchesM (l.take q) = 0 from rightGo_take _ _ _ _ _ c]
      exact tail
    · exact Ev.ite_neg c tail
  · rw [show smallM l = false by simpa using hs]
    exact Ev.ite_neg (by decide) (Ev.now _)
end Go.Proofs.YtmgliocboeifdaaDoor.Pure
