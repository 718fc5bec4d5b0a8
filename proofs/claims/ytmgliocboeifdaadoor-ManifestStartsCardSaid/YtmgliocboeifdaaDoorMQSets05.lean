/- Chapter 5: the program's sets are the sorted lists without repetition; valid lists. -/
import Derived.Test.YtmgliocboeifdaaDoorQGen
import Derived.Test.YtmgliocboeifdaaDoorMQSet05
import Derived.Test.YtmgliocboeifdaaDoorMx2
import Derived.Test.YtmgliocboeifdaaDoorMx9
namespace Go.Proofs.YtmgliocboeifdaaDoor.Q
open Go.RowKit Go.Proofs.YtmgliocboeifdaaDoorW.PrintWords Go.Proofs.YtmgliocboeifdaaDoorW.PrintLast Go.Proofs.YtmgliocboeifdaaDoorW.PrintMore Go.Proofs.YtmgliocboeifdaaDoor.M
set_option linter.unusedVariables false
set_option linter.unusedSimpArgs false
/-- The sets of the program and of the document. -/
def andS (a b : List Int) : List Int := (uniq a).filter fun x => (uniq b).contains x
def minusS (a b : List Int) : List Int := (uniq a).filter fun x => !(uniq b).contains x
def orS (a b : List Int) : List Int := uniq (a ++ b)
theorem andS_srt (a b : List Int) : (andS a b).Pairwise (· < ·) := (uniq_srt a).filter _
theorem minusS_srt (a b : List Int) : (minusS a b).Pairwise (· < ·) := (uniq_srt a).filter _
theorem orS_srt (a b : List Int) : (orS a b).Pairwise (· < ·) := uniq_srt _
theorem mem_andS (a b : List Int) (x : Int) : x ∈ andS a b ↔ x ∈ a ∧ x ∈ b := by simp [andS, mem_uniq]
theorem mem_minusS (a b : List Int) (x : Int) : x ∈ minusS a b ↔ x ∈ a ∧ x ∉ b := by simp [minusS, mem_uniq]
theorem mem_orS (a b : List Int) (x : Int) : x ∈ orS a b ↔ x ∈ a ∨ x ∈ b := by simp [orS, mem_uniq]
theorem andS_len (a b : List Int) : (andS a b).length ≤ a.length := Nat.le_trans (List.length_filter_le _ _) (uniq_len a)
theorem minusS_len (a b : List Int) : (minusS a b).length ≤ a.length := Nat.le_trans (List.length_filter_le _ _) (uniq_len a)
theorem orS_len (a b : List Int) : (orS a b).length ≤ a.length + b.length := by have := uniq_len (a ++ b); simpa [orS] using this
theorem Minus_is (a b : List Int) (ha : a.length ≤ 100000000) (hb : b.length ≤ 100000000) : posting_Minus.f a b = some (minusS a b) := by
  rw [posting_Minus.f, if_pos (by omega), if_pos (by omega)]; rfl
theorem unique_is (a : List Int) (ha : a.length ≤ 900000000) : posting_unique_int.f a = some (uniq a) := by
  rw [posting_unique_int.f, if_pos (by omega)]
theorem rd_L1_nat (l : List (List Int)) (i : Nat) (h : i < l.length) : rd_L2 l (i : Int) = l[i] := rdOf_nat _ l i h
theorem Concat2 (a b : List Int) (ha : a.length ≤ 100000000) (hb : b.length ≤ 100000000) : Ev (fun k => slices_Concat_int_int.f k [a, b]) (a ++ b) := by
  refine ⟨6, fun k hk => ?_⟩
  obtain ⟨k, rfl⟩ : ∃ j, k = j + 6 := ⟨k - 6, by omega⟩
  show slices_Concat_int_int.f (k + 6) [a, b] = some (a ++ b)
  rw [slices_Concat_int_int.f]
  rw [slices_Concat_int_int.l0, if_pos (by simp), if_pos (by simp), if_pos (by simp), show rd_L2 [a, b] 0 = a from rfl, w64 (by omega) (by omega), if_neg (by omega), show wrap64 (0 + 1) = 1 from w64 (by omega) (by omega)]
  rw [slices_Concat_int_int.l0, if_pos (by simp), if_pos (by simp), if_pos (by simp), show rd_L2 [a, b] 1 = b from rfl, w64 (by omega) (by omega), if_neg (by omega), show wrap64 (1 + 1) = 2 from w64 (by omega) (by omega)]
  rw [slices_Concat_int_int.l0, if_neg (by simp), slices_Grow_int_int.f, if_pos (by omega), if_pos (by omega), Option.bind_some]
  rw [slices_Concat_int_int.l1, if_pos (by simp), if_pos (by simp), if_pos (by simp), show rd_L2 [a, b] 0 = a from rfl, if_pos (by simp; omega), show wrap64 (0 + 1) = 1 from w64 (by omega) (by omega)]
  rw [slices_Concat_int_int.l1, if_pos (by simp), if_pos (by simp), if_pos (by simp), show rd_L2 [a, b] 1 = b from rfl, if_pos (by simp; omega), show wrap64 (1 + 1) = 2 from w64 (by omega) (by omega)]
  rw [slices_Concat_int_int.l1, if_neg (by simp)]
  simp
theorem Or_is (a b : List Int) (ha : a.length ≤ 100000000) (hb : b.length ≤ 100000000) : Ev (fun k => posting_Or.f k a b) (orS a b) := by
  refine Ev.congr (fun k => rfl) (Ev.bind (Concat2 a b ha hb) (Ev.bind_eq (unique_is (a ++ b) (by simp; omega)) ?_))
  exact Ev.now _
/-- Valid lists. -/
def okV (lo : Int) : List Int → Bool
  | [] => true
  | x :: l => decide (0 ≤ x) && decide (x ≤ 9999) && decide (lo < x) && okV x l
def prevV (l : List Int) (i : Nat) : Int := if i = 0 then -1 else l.getD (i - 1) 0
theorem prevV_succ (l : List Int) (i : Nat) (h : i < l.length) : prevV l (i + 1) = l[i] := by
  simp [prevV, List.getD_eq_getElem?_getD, List.getElem?_eq_getElem h]
theorem Valid_is (l : List Int) (hl : l.length ≤ 9223372036854775000) : Ev (fun k => posting_Valid.f k l) (okV (-1) l) := by
  have key : ∀ d (i : Nat), i + d = l.length → Ev (fun k => posting_Valid.l0 k l l (l.length : Int) (i : Int)) (okV (prevV l i) (l.drop i)) := by
    intro d
    induction d with
    | zero =>
      intro i hi
      rw [List.drop_of_length_le (by omega)]
      refine Ev.step (f := fun _ => some true) (fun k => ?_) (Ev.now _)
      rw [posting_Valid.l0, if_neg (show ¬ (i : Int) < (l.length : Int) by omega)]
    | succ d ih =>
      intro i hi
      have hlt : i < l.length := by omega
      have hih := ih (i + 1) (by omega)
      rw [prevV_succ l i hlt] at hih
      rw [drop_cons l i hlt, okV]
      have hd : ∀ k, posting_Valid.l0 (k + 1) l l (l.length : Int) (i : Int) = if l[i] < 0 then some false else if l[i] > 9999 then some false else if (i : Int) > 0 then (if 0 ≤ (wrap64 ((i : Int) - 1)) then (if (wrap64 ((i : Int) - 1)) < (l.length : Int) then (if l[i] ≤ (rd l (wrap64 ((i : Int) - 1))) then (some false) else (posting_Valid.l0 k l l (l.length : Int) (((i + 1 : Nat) : Int)))) else (none)) else (none)) else (posting_Valid.l0 k l l (l.length : Int) ((i + 1 : Nat) : Int)) := by
        intro k
        rw [posting_Valid.l0, if_pos (show (i : Int) < (l.length : Int) by omega), if_pos (show (0 : Int) ≤ (i : Int) by omega), if_pos (show (i : Int) < (l.length : Int) by omega), rd_nat l i hlt, w64 (x := (i : Int) + 1) (by omega) (by omega)]
        rfl
      by_cases h0 : l[i] < 0
      · rw [show decide (0 ≤ l[i]) = false from by simp; omega]
        exact Ev.step (f := fun _ => some false) (fun k => by rw [hd, if_pos h0]) (Ev.now _)
      · rw [show decide (0 ≤ l[i]) = true from by simp; omega]
        by_cases h9 : l[i] > 9999
        · rw [show decide (l[i] ≤ 9999) = false from by simp; omega]
          exact Ev.step (f := fun _ => some false) (fun k => by rw [hd, if_neg h0, if_pos h9]) (Ev.now _)
        · rw [show decide (l[i] ≤ 9999) = true from by simp; omega]
          by_cases hi0 : i = 0
          · rw [show decide (prevV l i < l[i]) = true from by subst hi0; simp [prevV]; omega]
            exact Ev.step (fun k => by rw [hd, if_neg h0, if_neg h9, if_neg (by omega)]) hih
          · have hp : prevV l i = l[i - 1]'(by omega) := by
              have := prevV_succ l (i - 1) (by omega)
              rwa [show i - 1 + 1 = i from by omega] at this
            have e1 : wrap64 ((i : Int) - 1) = ((i - 1 : Nat) : Int) := by rw [w64 (by omega) (by omega)]; omega
            rw [hp]
            by_cases hle : l[i] ≤ l[i - 1]'(by omega)
            · rw [show decide (l[i - 1]'(by omega) < l[i]) = false from by simp; omega]
              exact Ev.step (f := fun _ => some false) (fun k => by rw [hd, if_neg h0, if_neg h9, if_pos (by omega), e1, if_pos (by omega), if_pos (by omega), rd_nat l (i - 1) (by omega), if_pos hle]) (Ev.now _)
            · rw [show decide (l[i - 1]'(by omega) < l[i]) = true from by simp; omega]
              exact Ev.step (fun k => by rw [hd, if_neg h0, if_neg h9, if_pos (by omega), e1, if_pos (by omega), if_pos (by omega), rd_nat l (i - 1) (by omega), if_neg hle]) hih
  exact key l.length 0 (by omega)
end Go.Proofs.YtmgliocboeifdaaDoor.Q
