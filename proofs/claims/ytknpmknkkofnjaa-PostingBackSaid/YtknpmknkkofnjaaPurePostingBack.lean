/- PostingBack, over numbers and lists alone. -/
import Derived.Test.YtknpmknkkofnjaaStPostingBack
import Derived.Test.YtknpmknkkofnjaaPQUnp05
namespace Go.Proofs.Ytknpmknkkofnjaa.Pure
open Go.RowKit Go.Proofs.YtknpmknkkofnjaaW.PrintWords Go.Proofs.YtknpmknkkofnjaaW.PrintLast Go.Proofs.YtknpmknkkofnjaaW.PrintMore Go.Proofs.Ytknpmknkkofnjaa.P Go.Proofs.Ytknpmknkkofnjaa.Q
set_option linter.unusedVariables false
set_option linter.unusedSimpArgs false
theorem back_j1 (b : List Int) (hl : b.length ≤ 1000) (hu : ∀ x ∈ b, 0 ≤ x ∧ x < 256) : Ev (fun k => codesearchlaw05_PostingBack.j1 k b) true := by
  refine Ev.step (fun k => by rw [codesearchlaw05_PostingBack.j1]) (Ev.bind (Unpack_go b (by omega) hu) ?_)
  have hlen := unpackS_len b
  rcases unpackS_cases b with h1 | ⟨l, h1, h2, h3⟩
  · rw [h1]
    exact Ev.ite_neg (by decide) (Ev.ite_pos rfl (Ev.now _))
  · rw [h1] at hlen ⊢
    replace hlen : l.length ≤ 16000 := hlen
    have hp := Pack_go l (by omega)
    rw [if_pos h2, h3] at hp
    refine Ev.ite_pos rfl (Ev.bind hp (Ev.ite_pos rfl ?_))
    refine Ev.bind_eq (a := true) (by rw [codesearchlaw05_sameBytes.f, beq_self_eq_true]) (Ev.now _)
theorem PostingBack : StPostingBack.Pure := by
  intro U l b hl hb
  refine Ev.rounds (Ev.congr (fun k => rfl) (Ev.bind alive05 (Ev.ite_pos rfl ?_)))
  have hu : ∀ x ∈ b, 0 ≤ x ∧ x < 256 := fun x hx => wf_u8.1 (hb.2.2.2 x hx)
  by_cases h1 : (l.length : Int) > 200
  · refine Ev.ite_pos h1 (Ev.step (f := fun _ => some true) (fun k => ?_) (Ev.now _))
    rw [codesearchlaw05_PostingBack.j0, if_pos rfl]
  refine Ev.ite_neg h1 ?_
  by_cases h2 : (b.length : Int) > 1000
  · refine Ev.step (f := fun _ => some true) (fun k => ?_) (Ev.now _)
    rw [codesearchlaw05_PostingBack.j0, if_pos (decide_eq_true h2)]
  refine Ev.step (fun k => by rw [codesearchlaw05_PostingBack.j0, if_neg (by simpa using h2)]) ?_
  have hj := back_j1 b (by omega) hu
  have hp := Pack_go l (by omega)
  by_cases hv : okV (-1) l = true
  · rw [if_pos hv] at hp
    have hpl := packF_len l.length l
    have he := enc7_length 10 (l.length : Int)
    have hlen : (packL l).length ≤ 100000 := by simp only [packL, List.length_append]; omega
    have hU := Unpack_go (packL l) (by omega) (packL_range ((okV_OkV l).1 hv) (by omega))
    rw [unpack_pack l hv (by omega)] at hU
    refine Ev.bind hp (Ev.bind (Valid_is l (by omega)) ?_)
    rw [hv]
    refine Ev.ite_neg (by simp) (Ev.ite_pos rfl (Ev.bind hU (Ev.ite_pos rfl (Ev.bind (Same_self l (by omega)) (Ev.ite_pos rfl hj)))))
  · rw [if_neg hv] at hp
    refine Ev.bind hp (Ev.bind (Valid_is l (by omega)) ?_)
    rw [Bool.not_eq_true] at hv
    rw [hv]
    exact Ev.ite_neg (by decide) (Ev.ite_neg (by decide) hj)
end Go.Proofs.Ytknpmknkkofnjaa.Pure
