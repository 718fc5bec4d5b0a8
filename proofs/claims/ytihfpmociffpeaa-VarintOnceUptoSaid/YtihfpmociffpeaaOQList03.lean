/- What the lists' encoding is; what the program's and the document's functions on lists answer. -/
import Derived.Test.YtihfpmociffpeaaOx2
import Derived.Test.YtihfpmociffpeaaOQPut
namespace Go.Proofs.Ytihfpmociffpeaa.Q
open Go.RowKit Go.Proofs.YtihfpmociffpeaaW.PrintWords Go.Proofs.YtihfpmociffpeaaW.PrintLast Go.Proofs.YtihfpmociffpeaaW.PrintMore Go.Proofs.Ytihfpmociffpeaa.O
set_option linter.unusedVariables false
set_option linter.unusedSimpArgs false

/-- Increasing, and greater than lo. -/
def okL (lo : Int) : List Int → Bool
  | [] => true
  | x :: t => decide (lo < x) && okL x t
def encL : Int → List Int → List Int
  | _, [] => []
  | last, x :: t => enc7 10 (x - last) ++ encL x t
def putL (l0 l : List Int) : List Int × Int := if okL (-1) l = true then (l0 ++ enc7 10 (l.length : Int) ++ encL 0 l, 0) else ([], 1)
def prevL (l : List Int) (i : Nat) (z : Int) : Int := if i = 0 then z else l.getD (i - 1) 0
theorem prevL_succ (l : List Int) (i : Nat) (z : Int) (h : i < l.length) : prevL l (i + 1) z = l[i] := by
  simp [prevL, List.getD_eq_getElem?_getD, List.getElem?_eq_getElem h]
theorem encL_length (l : List Int) : ∀ last : Int, (encL last l).length ≤ 10 * l.length := by
  induction l with
  | nil => intro last; simp [encL]
  | cons x t ih =>
    intro last
    have := ih x
    have := enc7_length 10 (x - last)
    simp [encL]; omega
theorem okL_pos {lo : Int} {l : List Int} (h : okL lo l = true) : ∀ x ∈ l, lo < x := by
  induction l generalizing lo with
  | nil => simp
  | cons a t ih =>
    simp only [okL, Bool.and_eq_true, decide_eq_true_eq] at h
    intro x hx
    rcases List.mem_cons.1 hx with rfl | hx
    · exact h.1
    · have := ih h.2 x hx; omega
/-- The second loop of PutList. -/
theorem plist_put (l : List Int) (hw : ∀ x ∈ l, -9223372036854775808 ≤ x ∧ x ≤ 9223372036854775807) (hlen : l.length ≤ 140737488355328) :
    ∀ d (i : Nat) (acc : List Int), i + d = l.length → acc.length + 10 * d + 20 < 140737488355328 → 0 ≤ prevL l i 0 → okL (prevL l i (-1)) (l.drop i) = true →
      Ev (fun k => varint_PutList.l1 k l acc (prevL l i 0) (l.length : Int) (i : Int)) (acc ++ encL (prevL l i 0) (l.drop i), 0) := by
  intro d
  induction d with
  | zero =>
    intro i acc hi ha hp hok
    refine Ev.step (f := fun _ => some (acc ++ encL (prevL l i 0) (l.drop i), 0)) (fun k => ?_) (Ev.now _)
    rw [varint_PutList.l1, if_neg (show ¬ (i : Int) < (l.length : Int) by omega), List.drop_of_length_le (by omega)]
    simp [encL]
  | succ d ih =>
    intro i acc hi ha hp hok
    have hl : i < l.length := by omega
    have hx := hw l[i] (List.getElem_mem _)
    rw [drop_cons l i hl] at hok ⊢
    simp only [okL, Bool.and_eq_true, decide_eq_true_eq] at hok
    have hge : prevL l i 0 ≤ l[i] := by
      unfold prevL at hp hok ⊢
      split
      · rename_i h0; rw [if_pos h0] at hok; omega
      · rename_i h0; rw [if_neg h0] at hok; omega
    have h0' : 0 ≤ l[i] := by omega
    have hps := prevL_succ l i 0 hl
    have hen := enc7_length 10 (l[i] - prevL l i 0)
    have := ih (i + 1) (acc ++ enc7 10 (l[i] - prevL l i 0)) (by omega) (by simp; omega) (by rw [hps]; exact h0') (by rw [prevL_succ l i (-1) hl]; exact hok.2)
    rw [hps] at this
    refine Ev.step (f := fun k => varint_PutList.l1 k l (acc ++ enc7 10 (l[i] - prevL l i 0)) l[i] (l.length : Int) ((i + 1 : Nat) : Int)) (fun k => ?_) ?_
    · rw [varint_PutList.l1, if_pos (show (i : Int) < (l.length : Int) by omega), if_pos (show (0 : Int) ≤ (i : Int) by omega), if_pos (show (i : Int) < (l.length : Int) by omega), rd_nat l i hl, w64 (by omega) (by omega), Put_go acc _ (by omega) (by omega), w64 (x := (i : Int) + 1) (by omega) (by omega)]
      rw [show max (l[i] - prevL l i 0) 0 = l[i] - prevL l i 0 from by omega]
      rfl
    · simp only [encL]
      rw [← List.append_assoc]; exact this
theorem plist_check (l0 l : List Int) (h0 : l0.length + 10 * l.length + 40 < 140737488355328) (hw : ∀ x ∈ l, -9223372036854775808 ≤ x ∧ x ≤ 9223372036854775807) (hlen : l.length ≤ 140737488355328) :
    ∀ d (i : Nat), i + d = l.length → (okL (prevL l i (-1)) (l.drop i) = okL (-1) l) → (0 < i → 0 ≤ prevL l i (-1)) →
      Ev (fun k => varint_PutList.l0 k l0 l (l.length : Int) (i : Int)) (putL l0 l) := by
  intro d
  induction d with
  | zero =>
    intro i hi he hp
    have hok : okL (-1) l = true := by rw [← he, List.drop_of_length_le (by omega)]; rfl
    have := plist_put l hw (by omega) l.length 0 (l0 ++ enc7 10 (l.length : Int)) (by omega) (by have := enc7_length 10 (l.length : Int); simp; omega) (by simp [prevL]) (by simpa [prevL] using hok)
    rw [putL, if_pos hok]
    refine Ev.step (f := fun k => varint_PutList.l1 k l (l0 ++ enc7 10 (l.length : Int)) 0 (l.length : Int) 0) (fun k => ?_) ?_
    · rw [varint_PutList.l0, if_neg (show ¬ (i : Int) < (l.length : Int) by omega), Put_go l0 _ (by omega) (by omega), show max (l.length : Int) 0 = (l.length : Int) from by omega]
      rfl
    · simpa [prevL] using this
  | succ d ih =>
    intro i hi he hp
    have hl : i < l.length := by omega
    have hx := hw l[i] (List.getElem_mem _)
    rw [drop_cons l i hl] at he
    by_cases hneg : l[i] < 0
    · have hbad : okL (-1) l = false := by
        rw [← he]
        simp only [okL, Bool.and_eq_false_iff, decide_eq_false_iff_not]
        left
        by_cases hi0 : i = 0
        · subst hi0; simp [prevL]; omega
        · have := hp (by omega); omega
      refine Ev.step (f := fun _ => some (putL l0 l)) (fun k => ?_) (Ev.now _)
      rw [varint_PutList.l0, if_pos (show (i : Int) < (l.length : Int) by omega), if_pos (show (0 : Int) ≤ (i : Int) by omega), if_pos (show (i : Int) < (l.length : Int) by omega), rd_nat l i hl, if_pos hneg, putL, if_neg (by rw [hbad]; decide)]
    · by_cases hi0 : i = 0
      · subst hi0
        have hthis := ih 1 (by omega) (by
          rw [prevL_succ l 0 (-1) hl, ← he]
          simp [okL, prevL]; intro; omega) (fun _ => by rw [prevL_succ l 0 (-1) hl]; omega)
        refine Ev.step (fun k => ?_) hthis
        rw [varint_PutList.l0, if_pos (show ((0 : Nat) : Int) < (l.length : Int) by omega), if_pos (show (0 : Int) ≤ ((0 : Nat) : Int) by omega), if_pos (show ((0 : Nat) : Int) < (l.length : Int) by omega), rd_nat l 0 hl, if_neg hneg, if_neg (show ¬ ((0 : Nat) : Int) > 0 by omega), w64 (by omega) (by omega)]
        rfl
      · have hpe : prevL l i (-1) = l[i - 1]'(by omega) := by
          have := prevL_succ l (i - 1) (-1) (by omega)
          rwa [show i - 1 + 1 = i from by omega] at this
        have e1 : wrap64 ((i : Int) - 1) = ((i - 1 : Nat) : Int) := by rw [w64 (by omega) (by omega)]; omega
        by_cases hge : l[i - 1]'(by omega) ≥ l[i]
        · have hbad : okL (-1) l = false := by
            rw [← he]
            simp only [okL, Bool.and_eq_false_iff, decide_eq_false_iff_not]
            left; rw [hpe]; omega
          refine Ev.step (f := fun _ => some (putL l0 l)) (fun k => ?_) (Ev.now _)
          rw [varint_PutList.l0, if_pos (show (i : Int) < (l.length : Int) by omega), if_pos (show (0 : Int) ≤ (i : Int) by omega), if_pos (show (i : Int) < (l.length : Int) by omega), rd_nat l i hl, if_neg hneg, if_pos (show (i : Int) > 0 by omega), e1, if_pos (show (0 : Int) ≤ ((i - 1 : Nat) : Int) by omega), if_pos (show ((i - 1 : Nat) : Int) < (l.length : Int) by omega), rd_nat l (i - 1) (by omega), if_pos hge, putL, if_neg (by rw [hbad]; decide)]
        · have hthis := ih (i + 1) (by omega) (by
            rw [prevL_succ l i (-1) hl, ← he]
            simp [okL, hpe]; intro; omega) (fun _ => by rw [prevL_succ l i (-1) hl]; omega)
          refine Ev.step (fun k => ?_) hthis
          rw [varint_PutList.l0, if_pos (show (i : Int) < (l.length : Int) by omega), if_pos (show (0 : Int) ≤ (i : Int) by omega), if_pos (show (i : Int) < (l.length : Int) by omega), rd_nat l i hl, if_neg hneg, if_pos (show (i : Int) > 0 by omega), e1, if_pos (show (0 : Int) ≤ ((i - 1 : Nat) : Int) by omega), if_pos (show ((i - 1 : Nat) : Int) < (l.length : Int) by omega), rd_nat l (i - 1) (by omega), if_neg hge, w64 (by omega) (by omega)]
          rfl
theorem PutList_go (l0 l : List Int) (h0 : l0.length + 10 * l.length + 40 < 140737488355328) (hw : ∀ x ∈ l, -9223372036854775808 ≤ x ∧ x ≤ 9223372036854775807) :
    Ev (fun k => varint_PutList.f k l0 l) (putL l0 l) := by
  refine Ev.congr (fun k => by rw [varint_PutList.f]) ?_
  exact plist_check l0 l h0 hw (by omega) l.length 0 (by omega) (by simp [prevL]) (by omega)
end Go.Proofs.Ytihfpmociffpeaa.Q
