/- VarintPuts: for every input the law's pure function answers true. -/
import Derived.Test.YtihfpmociffpeaaVx4
import Derived.Test.YtihfpmociffpeaaVx1
import Derived.Test.YtihfpmociffpeaaVx3
import Derived.Test.YtihfpmociffpeaaQAlive03
import Derived.Test.YtihfpmociffpeaaQRef03
namespace Go.Proofs.Ytihfpmociffpeaa.Q
open Go.RowKit Go.Proofs.YtihfpmociffpeaaW.PrintWords Go.Proofs.YtihfpmociffpeaaW.PrintLast Go.Proofs.YtihfpmociffpeaaW.PrintMore Go.Proofs.Ytihfpmociffpeaa.V
theorem bytesOf_get (s : ByteArray) (i : Nat) (h : i < s.size) : bt s (i : Int) = (bytesOf s)[i]'(by rw [bytesOf_length]; exact h) := by
  simp [bt, bytesOf, h]
  rfl
theorem PutString_go (l : List Int) (s : ByteArray) (hl : l.length + 20 + s.size < 140737488355328) :
    varint_PutString.f l s = some (l ++ enc7 10 (max (s.size : Int) 0) ++ bytesOf s) := by
  unfold varint_PutString.f
  rw [Put_go l _ (by omega) (by omega)]
  have := enc7_length 10 (max (s.size : Int) 0)
  simp only [Option.bind_some]
  rw [if_pos (by simp only [List.length_append]; omega)]
theorem rPutString_go (l : List Int) (s : ByteArray) (hl : l.length + 20 + s.size < 140737488355328) :
    Ev (fun k => codesearchref03_PutString.f k l s) (l ++ enc7 10 (max (s.size : Int) 0) ++ bytesOf s) := by
  have hlen := enc7_length 10 (max (s.size : Int) 0)
  have key : ∀ d (i : Nat) (p : List Int), p.length ≤ l.length + 10 → i + d = s.size → Ev (fun k => codesearchref03_PutString.l0 k s (p ++ (bytesOf s).take i) (i : Int)) (p ++ bytesOf s) := by
    intro d
    induction d with
    | zero =>
      intro i p hp hi
      refine Ev.step (f := fun _ => some (p ++ bytesOf s)) (fun k => ?_) (Ev.now _)
      rw [codesearchref03_PutString.l0, if_neg (show ¬ (i : Int) < (s.size : Int) by omega), List.take_of_length_le (by rw [bytesOf_length]; omega)]
    | succ d ih =>
      intro i p hp hi
      refine Ev.step (f := fun k => codesearchref03_PutString.l0 k s (p ++ (bytesOf s).take (i + 1)) ((i + 1 : Nat) : Int)) (fun k => ?_) (ih (i + 1) p hp (by omega))
      rw [codesearchref03_PutString.l0, if_pos (show (i : Int) < (s.size : Int) by omega), if_pos (show (0 : Int) ≤ (i : Int) by omega), if_pos (show (p ++ (bytesOf s).take i).length < 140737488355328 by simp [bytesOf_length]; omega), bytesOf_get s i (by omega), List.append_assoc, take_snoc (bytesOf s) i (by rw [bytesOf_length]; omega), w64 (by omega) (by omega)]
      rfl
  refine Ev.congr (fun k => by rw [codesearchref03_PutString.f]) (Ev.bind (rPut_go l _ (by omega) (by omega)) ?_)
  have := key s.size 0 (l ++ enc7 10 (max (s.size : Int) 0)) (by simp only [List.length_append]; omega) (by omega)
  simpa using this
theorem SameBytes_refl (l : List Int) : codesearchref03_SameBytes.f l l = some true := by
  simp [codesearchref03_SameBytes.f]
end Go.Proofs.Ytihfpmociffpeaa.Q
namespace Go.Proofs.Ytihfpmociffpeaa.Pure
open Go.RowKit Go.Proofs.Ytihfpmociffpeaa.V Go.Proofs.YtihfpmociffpeaaW.PrintWords Go.Proofs.YtihfpmociffpeaaW.PrintLast Go.Proofs.Ytihfpmociffpeaa.Q

theorem VarintPuts : codesearchlaw03_VarintPuts.Pure := by
  intro l0 a1 a2 hm hl hw ha hs
  have ha' := wf_i64.1 ha
  refine Ev.rounds (r := true) ?_
  refine Ev.congr (fun k => by rw [codesearchlaw03_VarintPuts.f]) (Ev.bind alive03 (Ev.ite_pos rfl ?_))
  by_cases h1 : (l0.length : Int) > 10000
  · refine Ev.ite_pos h1 (Ev.step (f := fun _ => some true) (fun k => ?_) (Ev.now _))
    rw [codesearchlaw03_VarintPuts.j0, if_pos rfl]
  · refine Ev.ite_neg h1 ?_
    by_cases h2 : (a2.size : Int) > 10000
    · refine Ev.step (f := fun _ => some true) (fun k => ?_) (Ev.now _)
      rw [codesearchlaw03_VarintPuts.j0, if_pos (decide_eq_true h2)]
    · refine Ev.step (fun k => by rw [codesearchlaw03_VarintPuts.j0, if_neg (by simpa using h2)]) ?_
      refine Ev.bind_eq (Put_go l0 a1 (by omega) (by omega)) (Ev.bind (rPut_go l0 a1 (by omega) (by omega)) (Ev.bind_eq (SameBytes_refl _) (Ev.ite_pos rfl ?_)))
      exact Ev.bind_eq (PutString_go l0 a2 (by omega)) (Ev.bind (rPutString_go l0 a2 (by omega)) (Ev.bind_eq (SameBytes_refl _) (Ev.now true)))

end Go.Proofs.Ytihfpmociffpeaa.Pure
