/- What sealing answers; two byte lists compared. -/
import Derived.Test.YtihfpmociffpeaaCx1
import Derived.Test.YtihfpmociffpeaaCQCrc
import Derived.Test.YtihfpmociffpeaaCQPut
namespace Go.Proofs.Ytihfpmociffpeaa.Q
open Go.RowKit Go.Proofs.YtihfpmociffpeaaW.PrintWords Go.Proofs.YtihfpmociffpeaaW.PrintLast Go.Proofs.YtihfpmociffpeaaW.PrintMore Go.Proofs.Ytihfpmociffpeaa.C
set_option linter.unusedVariables false
set_option linter.unusedSimpArgs false

theorem rBytes_loop (a b : List Int) (hlen : a.length ≤ 140737488355328) (hl : a.length = b.length) : ∀ (d i : Nat), i + d = a.length → Ev (fun k => codesearchref01_Bytes.l0 k a b (i : Int)) (decide (a.drop i = b.drop i)) := by
  intro d
  induction d with
  | zero =>
    intro i hi
    refine Ev.step (f := fun _ => some (decide (a.drop i = b.drop i))) (fun k => ?_) (Ev.now _)
    rw [codesearchref01_Bytes.l0, if_neg (by omega), List.drop_of_length_le (by omega), List.drop_of_length_le (by omega)]
    simp
  | succ d ih =>
    intro i hi
    have h1 : i < a.length := by omega
    have h2 : i < b.length := by omega
    have e : decide (a.drop i = b.drop i) = decide (a[i] = b[i] ∧ a.drop (i + 1) = b.drop (i + 1)) := by
      rw [drop_cons a i h1, drop_cons b i h2]
      exact decide_eq_decide.2 ⟨fun h => List.cons.inj h, fun h => by rw [h.1, h.2]⟩
    rw [e]
    by_cases h : a[i] = b[i]
    · refine Ev.step (f := fun k => codesearchref01_Bytes.l0 k a b ((i + 1 : Nat) : Int)) (fun k => ?_) (by
        have := ih (i + 1) (by omega)
        rwa [show decide (a[i] = b[i] ∧ a.drop (i + 1) = b.drop (i + 1)) = decide (a.drop (i + 1) = b.drop (i + 1)) from decide_eq_decide.2 ⟨fun h => h.2, fun h' => ⟨h, h'⟩⟩])
      rw [codesearchref01_Bytes.l0, if_pos (by omega), if_pos (by omega), if_pos (by omega), rd_nat a i h1, rd_nat b i h2, if_pos h, w64 (by omega) (by omega)]
      rfl
    · rw [decide_eq_false (fun h' => h h'.1)]
      refine Ev.step (f := fun _ => some false) (fun k => ?_) (Ev.now _)
      rw [codesearchref01_Bytes.l0, if_pos (by omega), if_pos (by omega), if_pos (by omega), rd_nat a i h1, rd_nat b i h2, if_neg h]
theorem rBytes_go (a b : List Int) (hlen : a.length ≤ 140737488355328) : Ev (fun k => codesearchref01_Bytes.f k a b) (decide (a = b)) := by
  unfold codesearchref01_Bytes.f
  by_cases hl : a.length = b.length
  · refine Ev.ite_pos (by omega) ?_
    have := rBytes_loop a b hlen hl a.length 0 (by omega)
    simpa using this
  · refine Ev.ite_neg (by omega) ?_
    have : ¬ a = b := fun h => hl (by rw [h])
    rw [decide_eq_false this]
    exact Ev.now _

def four4 (s : Nat) : List Int := [((s / 16777216 % 256 : Nat) : Int), ((s / 65536 % 256 : Nat) : Int), ((s / 256 % 256 : Nat) : Int), ((s % 256 : Nat) : Int)]
def sealL (l : List Int) : List Int := (enc7 10 (l.length : Int) ++ l) ++ four4 (crcE 0 (enc7 10 (l.length : Int) ++ l))
theorem head_range (n : Nat) (hn : n ≤ 140737488351232) : ∀ c ∈ enc7 10 (n : Int), 0 ≤ c ∧ c < 256 :=
  enc7_range 10 _ (by omega) (Int.lt_of_le_of_lt (show (n : Int) ≤ 140737488351232 by omega) (by decide))
theorem body_range (l : List Int) (hlen : l.length ≤ 140737488351232) (hl : ∀ x ∈ l, 0 ≤ x ∧ x < 256) : ∀ c ∈ enc7 10 (l.length : Int) ++ l, 0 ≤ c ∧ c < 256 := by
  intro c hc
  rcases List.mem_append.1 hc with h | h
  · exact head_range l.length hlen c h
  · exact hl c h
theorem four4_range (s : Nat) : ∀ c ∈ four4 s, 0 ≤ c ∧ c < 256 := by
  intro c hc
  simp only [four4, List.mem_cons, List.not_mem_nil, or_false] at hc
  omega
theorem four_go (s : Nat) (hs : s < 2 ^ 32) : codesearchref04_four.f (s : Int) = some (four4 s) := by
  unfold codesearchref04_four.f four4
  simp only [Int.tdiv_eq_ediv_of_nonneg (Int.natCast_nonneg s), Int.tmod_eq_emod_of_nonneg (Int.natCast_nonneg s)]
  rw [show ((s : Int) / 16777216 % 4294967296 % 256) = ((s / 16777216 % 256 : Nat) : Int) by omega, show ((s : Int) / 65536 % 4294967296 % 256) = ((s / 65536 % 256 : Nat) : Int) by omega,
    show ((s : Int) / 256 % 4294967296 % 256) = ((s / 256 % 256 : Nat) : Int) by omega, show ((s : Int) % 256 % 256) = ((s % 256 : Nat) : Int) by omega]
theorem Seal_go (l : List Int) (hlen : l.length ≤ 140737488351232) (hl : ∀ x ∈ l, 0 ≤ x ∧ x < 256) : checksum_Seal.f l = some (sealL l) := by
  have hb := body_range l hlen hl
  have he := enc7_length 10 (l.length : Int)
  have hp := Put_go [] (l.length : Int) (by simp) (by omega)
  rw [show max (l.length : Int) 0 = (l.length : Int) by omega, List.nil_append] at hp
  unfold checksum_Seal.f sealL
  rw [hp, Option.bind_some, if_pos (by omega), Option.bind_some, Sum_go _ hb, Option.bind_some, Option.bind_some]
  generalize crcE 0 (enc7 10 (l.length : Int) ++ l) = s
  rw [if_pos (by simp only [List.length_append, List.length_cons, List.length_nil]; omega)]
  unfold four4
  rw [show ((s : Int) / 16777216 % 256) = ((s / 16777216 % 256 : Nat) : Int) by omega, show ((s : Int) / 65536 % 256) = ((s / 65536 % 256 : Nat) : Int) by omega,
    show ((s : Int) / 256 % 256) = ((s / 256 % 256 : Nat) : Int) by omega, show ((s : Int) % 256) = ((s % 256 : Nat) : Int) by omega]
end Go.Proofs.Ytihfpmociffpeaa.Q
