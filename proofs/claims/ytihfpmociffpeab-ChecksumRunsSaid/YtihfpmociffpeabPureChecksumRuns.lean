/- ChecksumRuns: for every input the law's pure function answers true. -/
import Derived.Test.YtihfpmociffpeabStChecksumRuns
import Derived.Test.YtihfpmociffpeabRQAlive04
import Derived.Test.YtihfpmociffpeabRQAll
namespace Go.Proofs.Ytihfpmociffpeab.Pure
open Go.RowKit Go.Proofs.Ytihfpmociffpeab.R Go.Proofs.YtihfpmociffpeabW.PrintWords Go.Proofs.YtihfpmociffpeabW.PrintLast Go.Proofs.YtihfpmociffpeabW.PrintMore Go.Proofs.Ytihfpmociffpeab.Q Go.Proofs.Ytihfpmociffpeab.StChecksumRuns
set_option linter.unusedVariables false
set_option linter.unusedSimpArgs false

theorem same_go (l : List (List Int)) (hl : ∀ x ∈ l, x.length ≤ 600) (hn : l.length ≤ 100000) : ∀ d i : Nat, i + d = l.length → Ev (fun k => codesearchlaw04_ChecksumRuns.l0 k l l (i : Int)) true := by
  intro d
  induction d with
  | zero =>
    intro i hi
    refine Ev.step (f := fun _ => some true) (fun k => ?_) (Ev.now _)
    rw [codesearchlaw04_ChecksumRuns.l0, if_neg (by omega)]
  | succ d ih =>
    intro i hi
    have hi' : i < l.length := by omega
    have hb := rBytes_go l[i] l[i] (by have := hl l[i] (List.getElem_mem _); omega)
    rw [show decide (l[i] = l[i]) = true from by simp] at hb
    have h2 := ih (i + 1) (by omega)
    have e : wrap64 ((i : Int) + 1) = ((i + 1 : Nat) : Int) := by rw [w64 (by omega) (by omega)]; omega
    have c0 : (i : Int) < (l.length : Int) := by omega
    refine Ev.step (fun k => ?_) (Ev.bind (f := fun k t => if t = true then codesearchlaw04_ChecksumRuns.l0 k l l ((i + 1 : Nat) : Int) else some false) hb (Ev.ite_pos rfl h2))
    rw [codesearchlaw04_ChecksumRuns.l0, if_pos c0, if_pos (Int.natCast_nonneg i), if_pos c0, rdL1_nat l i hi', e]
theorem allR_count (b : List Int) (m : Int) : ∀ (n : Nat) (at_ : Int), (allR b m n at_).1.length ≤ n := by
  intro n
  induction n with
  | zero => intro at_; simp [allR]
  | succ n ih =>
    intro at_
    unfold allR
    split
    · rw [List.length_cons]
      have := ih (openL b at_ m).2.1
      omega
    · simp
theorem ChecksumRuns : StChecksumRuns.Pure := by
  intro U b m ⟨hl, _, _, hw⟩ _
  have hu : ∀ x ∈ b, 0 ≤ x ∧ x < 256 := fun x hx => wf_u8.1 (hw x hx)
  refine Ev.rounds (r := true) ?_
  refine Ev.congr (fun k => by rw [codesearchlaw04_ChecksumRuns.f]) (Ev.bind alive04 (Ev.ite_pos rfl ?_))
  by_cases hbig : (b.length : Int) > 600
  · exact Ev.ite_pos hbig (Ev.now true)
  · have hc := allR_count b m (b.length + 1) 0
    have hs := same_go (allL b m).1 (fun x hx => by have := allR_length b m _ _ x hx; omega) (by unfold allL; omega) (allL b m).1.length 0 (by omega)
    refine Ev.ite_neg hbig (Ev.bind (All_go b m (by omega) hu) (Ev.bind (rAll_go b m (by omega) hu) (Ev.ite_pos rfl ?_)))
    rw [show (((allL b m).1.length : Int) != ((allL b m).1.length : Int)) = false from by simp]
    refine Ev.step (fun k => ?_) hs
    rw [codesearchlaw04_ChecksumRuns.j0, if_neg (by decide)]
    rfl

end Go.Proofs.Ytihfpmociffpeab.Pure
