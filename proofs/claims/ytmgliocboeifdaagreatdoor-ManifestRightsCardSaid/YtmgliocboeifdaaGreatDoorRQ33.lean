/- What the laws of this chapter share, over lists. -/
import Derived.Test.YtmgliocboeifdaaGreatDoorQGen
import Derived.Test.YtmgliocboeifdaaGreatDoorRQSet05
import Derived.Test.YtmgliocboeifdaaGreatDoorRx8
import Derived.Test.YtmgliocboeifdaaGreatDoorRx2
import Derived.Test.YtmgliocboeifdaaGreatDoorRx15
import Derived.Test.YtmgliocboeifdaaGreatDoorRx14
import Derived.Test.YtmgliocboeifdaaGreatDoorRx19
import Derived.Test.YtmgliocboeifdaaGreatDoorRx12
import Derived.Test.YtmgliocboeifdaaGreatDoorRx9
import Derived.Test.YtmgliocboeifdaaGreatDoorRQSetS
import Derived.Lib.IndexLaws
import Derived.Test.YtmgliocboeifdaaGreatDoorRx4
import Derived.Test.YtmgliocboeifdaaGreatDoorRx16
import Derived.Test.YtmgliocboeifdaaGreatDoorRx20
/-! Chapter 5: the program's sets are the sorted lists without repetition; valid lists. -/
namespace Go.Proofs.YtmgliocboeifdaaGreatDoor.Q
open Go.RowKit Go.Proofs.YtmgliocboeifdaaGreatDoorW.PrintWords Go.Proofs.YtmgliocboeifdaaGreatDoorW.PrintLast Go.Proofs.YtmgliocboeifdaaGreatDoorW.PrintMore Go.Proofs.YtmgliocboeifdaaGreatDoor.R
set_option linter.unusedVariables false
set_option linter.unusedSimpArgs false
/-- The sets of the program and of the document. -/
def andS (a b : List Int) : List Int := (uniq a).filter fun x => (uniq b).contains x
def minusS (a b : List Int) : List Int := (uniq a).filter fun x => !(uniq b).contains x
def orS (a b : List Int) : List Int := uniq (a ++ b)
theorem andS_srt (a b : List Int) : (andS a b).Pairwise (· < ·) := (uniq_srt a).filter _
theorem minusS_srt (a b : List Int) : (minusS a b).Pairwise (· < ·) := (uniq_srt a).filter _
theorem orS_srt (a b : List Int) : (orS a b).Pairwise (· < ·) := uniq_srt _
theorem mem_andS (a b : List Int) (x : Int) : x ∈ andS a b ↔ x ∈ a ∧ x ∈ b := by simp [andS, mem_uniq]
theorem mem_minusS (a b : List Int) (x : Int) : x ∈ minusS a b ↔ x ∈ a ∧ x ∉ b := by simp [minusS, mem_uniq]
theorem mem_orS (a b : List Int) (x : Int) : x ∈ orS a b ↔ x ∈ a ∨ x ∈ b := by simp [orS, mem_uniq]
theorem andS_len (a b : List Int) : (andS a b).length ≤ a.length := Nat.le_trans (List.length_filter_le _ _) (uniq_len a)
theorem minusS_len (a b : List Int) : (minusS a b).length ≤ a.length := Nat.le_trans (List.length_filter_le _ _) (uniq_len a)
theorem orS_len (a b : List Int) : (orS a b).length ≤ a.length + b.length := by have := uniq_len (a ++ b); simpa [orS] using this
theorem Minus_is (a b : List Int) (ha : a.length ≤ 100000000) (hb : b.length ≤ 100000000) : posting_Minus.f a b = some (minusS a b) := by
 rw [posting_Minus.f, if_pos (by omega), if_pos (by omega)]; rfl
theorem unique_is (a : List Int) (ha : a.length ≤ 900000000) : posting_unique_int.f a = some (uniq a) := by
 rw [posting_unique_int.f, if_pos (by omega)]
theorem rd_L1_nat (l : List (List Int)) (i : Nat) (h : i < l.length) : rd_L3 l (i : Int) = l[i] := rdOf_nat _ l i h
theorem Concat2 (a b : List Int) (ha : a.length ≤ 100000000) (hb : b.length ≤ 100000000) : Ev (fun k => slices_Concat_int_int.f k [a, b]) (a ++ b) := by
 refine ⟨6, fun k hk => ?_⟩
 obtain ⟨k, rfl⟩ : ∃ j, k = j + 6 := ⟨k - 6, by omega⟩
 show slices_Concat_int_int.f (k + 6) [a, b] = some (a ++ b)
 rw [slices_Concat_int_int.f]
 rw [slices_Concat_int_int.l0, if_pos (by simp), if_pos (by simp), if_pos (by simp), show rd_L3 [a, b] 0 = a from rfl, w64 (by omega) (by omega), if_neg (by omega), show wrap64 (0 + 1) = 1 from w64 (by omega) (by omega)]
 rw [slices_Concat_int_int.l0, if_pos (by simp), if_pos (by simp), if_pos (by simp), show rd_L3 [a, b] 1 = b from rfl, w64 (by omega) (by omega), if_neg (by omega), show wrap64 (1 + 1) = 2 from w64 (by omega) (by omega)]
 rw [slices_Concat_int_int.l0, if_neg (by simp), slices_Grow_int_int.f, if_pos (by omega), if_pos (by omega), Option.bind_some]
 rw [slices_Concat_int_int.l1, if_pos (by simp), if_pos (by simp), if_pos (by simp), show rd_L3 [a, b] 0 = a from rfl, if_pos (by simp; omega), show wrap64 (0 + 1) = 1 from w64 (by omega) (by omega)]
 rw [slices_Concat_int_int.l1, if_pos (by simp), if_pos (by simp), if_pos (by simp), show rd_L3 [a, b] 1 = b from rfl, if_pos (by simp; omega), show wrap64 (1 + 1) = 2 from w64 (by omega) (by omega)]
 rw [slices_Concat_int_int.l1, if_neg (by simp)]
 simp
theorem Or_is (a b : List Int) (ha : a.length ≤ 100000000) (hb : b.length ≤ 100000000) : Ev (fun k => posting_Or.f k a b) (orS a b) := by
 refine Ev.congr (fun k => rfl) (Ev.bind (Concat2 a b ha hb) (Ev.bind_eq (unique_is (a ++ b) (by simp; omega)) ?_))
 exact Ev.now _
/-- Valid lists. -/
def okV (lo : Int) : List Int → Bool
 | [] => true
 | x :: l => decide (0 ≤ x) && decide (x ≤ 9999) && decide (lo < x) && okV x l
def prevV (l : List Int) (i : Nat) : Int := if i = 0 then -1 else l.getD (i - 1) 0
theorem prevV_succ (l : List Int) (i : Nat) (h : i < l.length) : prevV l (i + 1) = l[i] := by
 simp [prevV, List.getD_eq_getElem?_getD, List.getElem?_eq_getElem h]
theorem Valid_is (l : List Int) (hl : l.length ≤ 9223372036854775000) : Ev (fun k => posting_Valid.f k l) (okV (-1) l) := by
 have key : ∀ d (i : Nat), i + d = l.length → Ev (fun k => posting_Valid.l0 k l l (l.length : Int) (i : Int)) (okV (prevV l i) (l.drop i)) := by
  intro d
  induction d with
  | zero =>
   intro i hi
   rw [List.drop_of_length_le (by omega)]
   refine Ev.step (f := fun _ => some true) (fun k => ?_) (Ev.now _)
   rw [posting_Valid.l0, if_neg (show ¬ (i : Int) < (l.length : Int) by omega)]
  | succ d ih =>
   intro i hi
   have hlt : i < l.length := by omega
   have hih := ih (i + 1) (by omega)
   rw [prevV_succ l i hlt] at hih
   rw [drop_cons l i hlt, okV]
   have hd : ∀ k, posting_Valid.l0 (k + 1) l l (l.length : Int) (i : Int) = if l[i] < 0 then some false else if l[i] > 9999 then some false else if (i : Int) > 0 then (if 0 ≤ (wrap64 ((i : Int) - 1)) then (if (wrap64 ((i : Int) - 1)) < (l.length : Int) then (if l[i] ≤ (rd l (wrap64 ((i : Int) - 1))) then (some false) else (posting_Valid.l0 k l l (l.length : Int) (((i + 1 : Nat) : Int)))) else (none)) else (none)) else (posting_Valid.l0 k l l (l.length : Int) ((i + 1 : Nat) : Int)) := by
    intro k
    rw [posting_Valid.l0, if_pos (show (i : Int) < (l.length : Int) by omega), if_pos (show (0 : Int) ≤ (i : Int) by omega), if_pos (show (i : Int) < (l.length : Int) by omega), rd_nat l i hlt, w64 (x := (i : Int) + 1) (by omega) (by omega)]
    rfl
   by_cases h0 : l[i] < 0
   ·rw [show decide (0 ≤ l[i]) = false from by simp; omega]
    exact Ev.step (f := fun _ => some false) (fun k => by rw [hd, if_pos h0]) (Ev.now _)
   ·rw [show decide (0 ≤ l[i]) = true from by simp; omega]
    by_cases h9 : l[i] > 9999
    ·rw [show decide (l[i] ≤ 9999) = false from by simp; omega]
     exact Ev.step (f := fun _ => some false) (fun k => by rw [hd, if_neg h0, if_pos h9]) (Ev.now _)
    ·rw [show decide (l[i] ≤ 9999) = true from by simp; omega]
     by_cases hi0 : i = 0
     ·rw [show decide (prevV l i < l[i]) = true from by subst hi0; simp [prevV]; omega]
      exact Ev.step (fun k => by rw [hd, if_neg h0, if_neg h9, if_neg (by omega)]) hih
     ·have hp : prevV l i = l[i - 1]'(by omega) := by
       have := prevV_succ l (i - 1) (by omega)
       rwa [show i - 1 + 1 = i from by omega] at this
      have e1 : wrap64 ((i : Int) - 1) = ((i - 1 : Nat) : Int) := by rw [w64 (by omega) (by omega)]; omega
      rw [hp]
      by_cases hle : l[i] ≤ l[i - 1]'(by omega)
      ·rw [show decide (l[i - 1]'(by omega) < l[i]) = false from by simp; omega]
       exact Ev.step (f := fun _ => some false) (fun k => by rw [hd, if_neg h0, if_neg h9, if_pos (by omega), e1, if_pos (by omega), if_pos (by omega), rd_nat l (i - 1) (by omega), if_pos hle]) (Ev.now _)
      ·rw [show decide (l[i - 1]'(by omega) < l[i]) = true from by simp; omega]
       exact Ev.step (fun k => by rw [hd, if_neg h0, if_neg h9, if_pos (by omega), e1, if_pos (by omega), if_pos (by omega), rd_nat l (i - 1) (by omega), if_neg hle]) hih
 exact key l.length 0 (by omega)
theorem rValid_is (l : List Int) (hl : l.length ≤ 9223372036854775000) : Ev (fun k => codesearchref05_Valid.f k l) (okV (-1) l) := by
 have key : ∀ d (i : Nat), i + d = l.length → Ev (fun k => codesearchref05_Valid.l0 k l (i : Int)) (okV (prevV l i) (l.drop i)) := by
  intro d
  induction d with
  | zero =>
   intro i hi
   rw [List.drop_of_length_le (by omega)]
   refine Ev.step (f := fun _ => some true) (fun k => ?_) (Ev.now _)
   rw [codesearchref05_Valid.l0, if_neg (show ¬ (i : Int) < (l.length : Int) by omega)]
  | succ d ih =>
   intro i hi
   have hlt : i < l.length := by omega
   have hih := ih (i + 1) (by omega)
   rw [prevV_succ l i hlt] at hih
   rw [drop_cons l i hlt, okV]
   have hd : ∀ k, codesearchref05_Valid.l0 (k + 1) l (i : Int) = if l[i] < 0 then some false else if l[i] > 9999 then some false else if (i : Int) > 0 then (if 0 ≤ (wrap64 ((i : Int) - 1)) then (if (wrap64 ((i : Int) - 1)) < (l.length : Int) then (if l[i] ≤ (rd l (wrap64 ((i : Int) - 1))) then (some false) else (codesearchref05_Valid.l0 k l (((i + 1 : Nat) : Int)))) else (none)) else (none)) else (codesearchref05_Valid.l0 k l ((i + 1 : Nat) : Int)) := by
    intro k
    rw [codesearchref05_Valid.l0, if_pos (show (i : Int) < (l.length : Int) by omega), if_pos (show (0 : Int) ≤ (i : Int) by omega), rd_nat l i hlt, w64 (x := (i : Int) + 1) (by omega) (by omega)]
    rfl
   by_cases h0 : l[i] < 0
   ·rw [show decide (0 ≤ l[i]) = false from by simp; omega]
    exact Ev.step (f := fun _ => some false) (fun k => by rw [hd, if_pos h0]) (Ev.now _)
   ·rw [show decide (0 ≤ l[i]) = true from by simp; omega]
    by_cases h9 : l[i] > 9999
    ·rw [show decide (l[i] ≤ 9999) = false from by simp; omega]
     exact Ev.step (f := fun _ => some false) (fun k => by rw [hd, if_neg h0, if_pos h9]) (Ev.now _)
    ·rw [show decide (l[i] ≤ 9999) = true from by simp; omega]
     by_cases hi0 : i = 0
     ·rw [show decide (prevV l i < l[i]) = true from by subst hi0; simp [prevV]; omega]
      exact Ev.step (fun k => by rw [hd, if_neg h0, if_neg h9, if_neg (by omega)]) hih
     ·have hp : prevV l i = l[i - 1]'(by omega) := by
       have := prevV_succ l (i - 1) (by omega)
       rwa [show i - 1 + 1 = i from by omega] at this
      have e1 : wrap64 ((i : Int) - 1) = ((i - 1 : Nat) : Int) := by rw [w64 (by omega) (by omega)]; omega
      rw [hp]
      by_cases hle : l[i] ≤ l[i - 1]'(by omega)
      ·rw [show decide (l[i - 1]'(by omega) < l[i]) = false from by simp; omega]
       exact Ev.step (f := fun _ => some false) (fun k => by rw [hd, if_neg h0, if_neg h9, if_pos (by omega), e1, if_pos (by omega), if_pos (by omega), rd_nat l (i - 1) (by omega), if_pos hle]) (Ev.now _)
      ·rw [show decide (l[i - 1]'(by omega) < l[i]) = true from by simp; omega]
       exact Ev.step (fun k => by rw [hd, if_neg h0, if_neg h9, if_pos (by omega), e1, if_pos (by omega), if_pos (by omega), rd_nat l (i - 1) (by omega), if_neg hle]) hih
 exact key l.length 0 (by omega)

/-! Chapter 33: the state after entries, of the program. -/
abbrev SE := S30
abbrev ST := List Int × List Int × Int
theorem rdE_nat (l : List SE) (i : Nat) (h : i < l.length) : rd_T30 l (i : Int) = l[i] := by
 simp [rd_T30, List.getD_eq_getElem?_getD, List.getElem?_eq_getElem h]
theorem w1 (i : Nat) (h : i ≤ 9223372036854775000) : wrap64 ((i : Int) + 1) = ((i + 1 : Nat) : Int) := by rw [w64 (by omega) (by omega)]; omega
theorem uniq_id {l : List Int} (h : l.Pairwise (· < ·)) : uniq l = l := srt_ext (uniq_srt l) h (fun x => mem_uniq l x)
/-- The state after an entry. -/
def afterM (s : ST) (e : SE) : ST :=
 if e.f1 = 1 then (orS s.1 [e.f2], s.2.1, mx s.2.2 e.f2) else if e.f1 = 2 then (s.1, orS s.2.1 e.f3, mx s.2.2 e.f2) else if e.f1 = 3 then (orS (minusS s.1 e.f4) [e.f2], [], mx s.2.2 e.f2) else (s.1, s.2.1, mx s.2.2 e.f2)
def runM (l : List SE) : ST := l.foldl afterM ([], [], 0)
/-- At most n elements in each list of an entry. -/
def fit (n : Nat) (e : SE) : Prop := e.f3.length ≤ n ∧ e.f4.length ≤ n
theorem after_is (s : ST) (e : SE) (h1 : s.1.length ≤ 10000000) (h2 : s.2.1.length ≤ 10000000) (he : fit 1000000 e) : Ev (fun k => manifest_state_after.f k s.1 s.2.1 s.2.2 e.f0 e.f1 e.f2 e.f3 e.f4 e.f5) (afterM s e) := by
 unfold afterM
 refine Ev.congr (fun k => by rw [manifest_state_after.f]) ?_
 by_cases c1 : e.f1 = 1
 ·rw [if_pos c1]
  exact Ev.ite_pos c1 (Ev.bind (Or_is _ _ (by omega) (by simp)) (Ev.now _))
 rw [if_neg c1]
 refine Ev.ite_neg c1 ?_
 by_cases c2 : e.f1 = 2
 ·rw [if_pos c2]
  exact Ev.ite_pos c2 (Ev.bind (Or_is _ _ (by omega) (by have := he.1; omega)) (Ev.now _))
 rw [if_neg c2]
 refine Ev.ite_neg c2 ?_
 by_cases c3 : e.f1 = 3
 ·rw [if_pos c3]
  refine Ev.ite_pos c3 (Ev.bind_eq (Minus_is _ _ (by omega) (by have := he.2; omega)) (Ev.bind (Or_is _ _ (by have := minusS_len s.1 e.f4; omega) (by simp)) (Ev.now _)))
 rw [if_neg c3]
 exact Ev.ite_neg c3 (Ev.now _)
theorem after_len (s : ST) (e : SE) : (afterM s e).1.length ≤ s.1.length + 1 ∧ (afterM s e).2.1.length ≤ s.2.1.length + e.f3.length := by
 unfold afterM
 have h1 := orS_len s.1 [e.f2]
 have h2 := orS_len s.2.1 e.f3
 have h3 := orS_len (minusS s.1 e.f4) [e.f2]
 have h4 := minusS_len s.1 e.f4
 simp only [List.length_singleton] at h1 h3
 split
 ·exact ⟨h1, Nat.le_add_right _ _⟩
 ·split
  ·exact ⟨Nat.le_succ _, h2⟩
  ·split
   ·refine ⟨Nat.le_trans h3 (by omega), by simp⟩
   ·exact ⟨Nat.le_succ _, Nat.le_add_right _ _⟩
theorem after_srt {s : ST} (h : s.1.Pairwise (· < ·) ∧ s.2.1.Pairwise (· < ·)) (e : SE) : (afterM s e).1.Pairwise (· < ·) ∧ (afterM s e).2.1.Pairwise (· < ·) := by
 unfold afterM
 split
 ·exact ⟨orS_srt _ _, h.2⟩
 ·split
  ·exact ⟨h.1, orS_srt _ _⟩
  ·split
   ·exact ⟨orS_srt _ _, List.Pairwise.nil⟩
   ·exact h
theorem runM_snoc (l : List SE) (i : Nat) (h : i < l.length) : runM (l.take (i + 1)) = afterM (runM (l.take i)) l[i] := by
 rw [← take_snoc l i h, runM, List.foldl_append]; rfl
theorem runM_srt (l : List SE) : (runM l).1.Pairwise (· < ·) ∧ (runM l).2.1.Pairwise (· < ·) := by
 have : ∀ (l : List SE) (s : ST), s.1.Pairwise (· < ·) ∧ s.2.1.Pairwise (· < ·) → (l.foldl afterM s).1.Pairwise (· < ·) ∧ (l.foldl afterM s).2.1.Pairwise (· < ·) := by
  intro l
  induction l with
  | nil => exact fun s h => h
  | cons e l ih => exact fun s h => ih _ (after_srt h e)
 exact this l _ ⟨List.Pairwise.nil, List.Pairwise.nil⟩
theorem runM_len (l : List SE) (n : Nat) (hf : ∀ e ∈ l, fit n e) : (runM l).1.length ≤ l.length ∧ (runM l).2.1.length ≤ l.length * n := by
 have : ∀ (l : List SE) (s : ST), (∀ e ∈ l, fit n e) → (l.foldl afterM s).1.length ≤ s.1.length + l.length ∧ (l.foldl afterM s).2.1.length ≤ s.2.1.length + l.length * n := by
  intro l
  induction l with
  | nil => exact fun s _ => by simp
  | cons e l ih =>
   intro s h
   have h1 := ih (afterM s e) (fun x hx => h x (List.mem_cons_of_mem _ hx))
   have h2 := after_len s e
   have h3 := (h e List.mem_cons_self).1
   have h4 : (e :: l).length * n = l.length * n + n := by rw [List.length_cons, Nat.succ_mul]
   rw [h4]
   refine ⟨Nat.le_trans h1.1 (by rw [List.length_cons]; omega), Nat.le_trans h1.2 (by omega)⟩
 have := this l ([], [], 0) hf
 simp only [List.length_nil, Nat.zero_add] at this
 exact this
theorem run_is (l : List SE) (hl : l.length ≤ 1000) (hf : ∀ e ∈ l, fit 1000 e) : Ev (fun k => manifest_run.f k l) (runM l) := by
 have key : ∀ d (i : Nat), i + d = l.length → Ev (fun k => manifest_run.l0 k l (l.length : Int) (i : Int) (runM (l.take i)).1 (runM (l.take i)).2.1 (runM (l.take i)).2.2) (runM l) := by
  intro d
  induction d with
  | zero =>
   intro i hi
   rw [List.take_of_length_le (by omega)]
   refine Ev.step (f := fun _ => some (runM l)) (fun k => ?_) (Ev.now _)
   rw [manifest_run.l0, if_neg (by omega)]
  | succ d ih =>
   intro i hi
   have hlt : i < l.length := by omega
   have hb := runM_len (l.take i) 1000 (fun e he => hf e (List.mem_of_mem_take he))
   rw [List.length_take] at hb
   have hn : Nat.min i l.length ≤ 1000 := Nat.le_trans (Nat.min_le_right _ _) hl
   have hm : Nat.min i l.length * 1000 ≤ 1000000 := by have := Nat.mul_le_mul_right 1000 hn; omega
   have hg := hf l[i] (List.getElem_mem _)
   refine Ev.step (fun k => by rw [manifest_run.l0, if_pos (show (i : Int) < (l.length : Int) by omega), if_pos (show (0 : Int) ≤ (i : Int) by omega), if_pos (show (i : Int) < (l.length : Int) by omega), rdE_nat l i hlt, w1 i (by omega)]) ?_
   refine Ev.bind (after_is (runM (l.take i)) l[i] (Nat.le_trans hb.1 (Nat.le_trans hn (by omega))) (Nat.le_trans hb.2 (Nat.le_trans hm (by omega))) ⟨by have := hg.1; omega, by have := hg.2; omega⟩) ?_
   have := ih (i + 1) (by omega)
   rw [runM_snoc l i hlt] at this
   exact this
 exact key l.length 0 (by omega)
theorem Live_is (l : List SE) (hl : l.length ≤ 1000) (hf : ∀ e ∈ l, fit 1000 e) : Ev (fun k => manifest_Live.f k l) (runM l).1 := Ev.bind (run_is l hl hf) (Ev.now _)
theorem Dead_is (l : List SE) (hl : l.length ≤ 1000) (hf : ∀ e ∈ l, fit 1000 e) : Ev (fun k => manifest_Dead.f k l) (runM l).2.1 := Ev.bind (run_is l hl hf) (Ev.now _)

/-! Chapter 33: lists that the statements look at. -/
def smallM (l : List SE) : Bool := decide (l.length ≤ 40) && l.all fun e => decide (e.f3.length ≤ 40) && (decide (e.f4.length ≤ 40) && decide (e.f5.length ≤ 40))
theorem small_is (l : List SE) : Ev (fun k => codesearchlaw33_small.f k l) (smallM l) := by
 unfold smallM
 by_cases h : (l.length : Int) > 40
 ·rw [decide_eq_false (show ¬ l.length ≤ 40 by omega)]
  exact Ev.ite_pos h (Ev.now _)
 ·rw [decide_eq_true (show l.length ≤ 40 by omega), Bool.true_and]
  refine Ev.ite_neg h ?_
  have key : ∀ d (i : Nat), i + d = l.length → Ev (fun k => codesearchlaw33_small.l0 k l (i : Int)) ((l.drop i).all fun e => decide (e.f3.length ≤ 40) && (decide (e.f4.length ≤ 40) && decide (e.f5.length ≤ 40))) := by
   intro d
   induction d with
   | zero =>
    intro i hi
    rw [List.drop_of_length_le (by omega)]
    refine Ev.step (f := fun _ => some true) (fun k => ?_) (Ev.now _)
    rw [codesearchlaw33_small.l0, if_neg (by omega)]
   | succ d ih =>
    intro i hi
    have hlt : i < l.length := by omega
    rw [drop_cons l i hlt, List.all_cons]
    refine Ev.step (fun k => by rw [codesearchlaw33_small.l0, if_pos (show (i : Int) < (l.length : Int) by omega), if_pos (show (0 : Int) ≤ (i : Int) by omega), rdE_nat l i hlt, w1 i (by omega)]) ?_
    by_cases c3 : ((l[i].f3).length : Int) > 40
    ·rw [decide_eq_false (show ¬ l[i].f3.length ≤ 40 by omega)]
     exact Ev.ite_pos c3 (Ev.now _)
    rw [decide_eq_true (show l[i].f3.length ≤ 40 by omega)]
    refine Ev.ite_neg c3 ?_
    by_cases c4 : ((l[i].f4).length : Int) > 40
    ·rw [decide_eq_false (show ¬ l[i].f4.length ≤ 40 by omega)]
     exact Ev.ite_pos c4 (Ev.now _)
    rw [decide_eq_true (show l[i].f4.length ≤ 40 by omega)]
    refine Ev.ite_neg c4 ?_
    by_cases c5 : ((l[i].f5).length : Int) > 40
    ·rw [decide_eq_false (show ¬ l[i].f5.length ≤ 40 by omega)]
     exact Ev.ite_pos c5 (Ev.now _)
    rw [decide_eq_true (show l[i].f5.length ≤ 40 by omega)]
    exact Ev.ite_neg c5 (ih (i + 1) (by omega))
  have := key l.length 0 (by omega)
  rw [List.drop_zero] at this
  exact this
theorem small_fit {l : List SE} (h : smallM l = true) : l.length ≤ 1000 ∧ ∀ e ∈ l, fit 1000 e := by
 rw [smallM, Bool.and_eq_true, decide_eq_true_iff, List.all_eq_true] at h
 refine ⟨by omega, fun e he => ?_⟩
 have h2 := h.2 e he
 rw [Bool.and_eq_true, Bool.and_eq_true, decide_eq_true_iff, decide_eq_true_iff, decide_eq_true_iff] at h2
 exact ⟨by omega, by omega⟩
theorem small_all {l : List SE} (h : smallM l = true) : l.length ≤ 40 ∧ ∀ e ∈ l, e.f3.length ≤ 40 ∧ e.f4.length ≤ 40 ∧ e.f5.length ≤ 40 := by
 rw [smallM, Bool.and_eq_true, decide_eq_true_iff, List.all_eq_true] at h
 refine ⟨h.1, fun e he => ?_⟩
 have h2 := h.2 e he
 rw [Bool.and_eq_true, Bool.and_eq_true, decide_eq_true_iff, decide_eq_true_iff, decide_eq_true_iff] at h2
 exact h2

/-! Chapter 33: what is live and dead after entries, of the document. -/
theorem has_is (l : List Int) (n : Int) (hl : l.length ≤ 9223372036854775000) : Ev (fun k => codesearchref33_has.f k l n) (decide (n ∈ l)) := by
 have key : ∀ d (i : Nat), i + d = l.length → Ev (fun k => codesearchref33_has.l0 k l n (i : Int)) (decide (n ∈ l.drop i)) := by
  intro d
  induction d with
  | zero =>
   intro i hi
   rw [List.drop_of_length_le (by omega)]
   refine Ev.step (f := fun _ => some false) (fun k => ?_) (Ev.now _)
   rw [codesearchref33_has.l0, if_neg (show ¬ (i : Int) < (l.length : Int) by omega)]
  | succ d ih =>
   intro i hi
   have hlt : i < l.length := by omega
   rw [drop_cons l i hlt]
   by_cases h : l[i] = n
   ·refine Ev.step (f := fun _ => some (decide (n ∈ l[i] :: l.drop (i + 1)))) (fun k => ?_) (Ev.now _)
    rw [codesearchref33_has.l0, if_pos (show (i : Int) < (l.length : Int) by omega), if_pos (show (0 : Int) ≤ (i : Int) by omega), rd_nat l i hlt, if_pos h]
    simp [h]
   ·rw [show decide (n ∈ l[i] :: l.drop (i + 1)) = decide (n ∈ l.drop (i + 1)) from decide_eq_decide.2 (by rw [List.mem_cons]; exact ⟨fun h2 => h2.resolve_left (fun e => h e.symm), .inr⟩)]
    refine Ev.step (fun k => ?_) (ih (i + 1) (by omega))
    rw [codesearchref33_has.l0, if_pos (show (i : Int) < (l.length : Int) by omega), if_pos (show (0 : Int) ≤ (i : Int) by omega), rd_nat l i hlt, if_neg h, w1 i (by omega)]
 exact key l.length 0 (by omega)
theorem SameInts_self (l : List Int) (hl : l.length ≤ 9223372036854775000) : Ev (fun k => codesearchref33_SameInts.f k l l) true := by
 have key : ∀ d (i : Nat), i + d = l.length → Ev (fun k => codesearchref33_SameInts.l0 k l l (i : Int)) true := by
  intro d
  induction d with
  | zero =>
   intro i hi
   refine Ev.step (f := fun _ => some true) (fun k => ?_) (Ev.now _)
   rw [codesearchref33_SameInts.l0, if_neg (show ¬ (i : Int) < (l.length : Int) by omega)]
  | succ d ih =>
   intro i hi
   refine Ev.step (fun k => ?_) (ih (i + 1) (by omega))
   rw [codesearchref33_SameInts.l0, if_pos (show (i : Int) < (l.length : Int) by omega), if_pos (show (0 : Int) ≤ (i : Int) by omega), if_pos (show (i : Int) < (l.length : Int) by omega), if_pos rfl, w1 i (by omega)]
 exact Ev.ite_pos rfl (key l.length 0 (by omega))
/-- n laid into an increasing list that has it not. -/
def insM (n : Int) : List Int → List Int
 | [] => [n]
 | x :: l => if n < x then n :: x :: l else x :: insM n l
theorem mem_insM (n : Int) : ∀ (l : List Int) (x : Int), x ∈ insM n l ↔ x = n ∨ x ∈ l
 | [], x => by simp [insM]
 | y :: l, x => by
  rw [insM]
  split
  ·rw [List.mem_cons]
  ·rw [List.mem_cons, mem_insM n l, List.mem_cons]
   constructor
   ·rintro (h | h | h)
    ·exact .inr (.inl h)
    ·exact .inl h
    ·exact .inr (.inr h)
   ·rintro (h | h | h)
    ·exact .inr (.inl h)
    ·exact .inl h
    ·exact .inr (.inr h)
theorem insM_srt (n : Int) : ∀ {l : List Int}, l.Pairwise (· < ·) → n ∉ l → (insM n l).Pairwise (· < ·)
 | [], _, _ => by simp [insM]
 | y :: l, h, hn => by
  have h1 := List.pairwise_cons.1 h
  rw [insM]
  split
  ·rename_i hlt
   refine List.pairwise_cons.2 ⟨fun x hx => ?_, h⟩
   rcases List.mem_cons.1 hx with rfl | hx
   ·exact hlt
   ·have := h1.1 x hx; omega
  ·rename_i hlt
   refine List.pairwise_cons.2 ⟨fun x hx => ?_, insM_srt n h1.2 (fun e => hn (List.mem_cons_of_mem _ e))⟩
   rcases (mem_insM n l x).1 hx with rfl | hx
   ·have : x ≠ y := fun e => hn (by rw [e]; exact List.mem_cons_self)
    omega
   ·exact h1.1 x hx
theorem with_is {l : List Int} (n : Int) (hs : l.Pairwise (· < ·)) (hl : l.length ≤ 10000000) : Ev (fun k => codesearchref33_with.f k l n) (orS l [n]) := by
 refine Ev.bind (has_is l n (by omega)) ?_
 by_cases h : n ∈ l
 ·rw [decide_eq_true h]
  rw [show orS l [n] = l from srt_ext (orS_srt _ _) hs (fun x => by rw [mem_orS, List.mem_singleton]; exact ⟨fun h2 => h2.elim id (fun e => by rw [e]; exact h), .inl⟩)]
  exact Ev.ite_pos rfl (Ev.now _)
 ·rw [decide_eq_false h]
  rw [show orS l [n] = insM n l from srt_ext (orS_srt _ _) (insM_srt n hs h) (fun x => by rw [mem_orS, mem_insM, List.mem_singleton]; exact ⟨Or.symm, Or.symm⟩)]
  refine Ev.ite_neg (by decide) ?_
  have key1 : ∀ d (i : Nat) (acc : List Int), i + d = l.length → acc.length ≤ i + 1 → Ev (fun k => codesearchref33_with.l0 k l n acc true (i : Int)) (acc ++ l.drop i) := by
   intro d
   induction d with
   | zero =>
    intro i acc hi ha
    rw [List.drop_of_length_le (by omega), List.append_nil]
    refine Ev.step (f := fun _ => some acc) (fun k => ?_) (Ev.now _)
    rw [codesearchref33_with.l0, if_neg (by omega), if_pos rfl]
   | succ d ih =>
    intro i acc hi ha
    have hlt : i < l.length := by omega
    have := ih (i + 1) (acc ++ [l[i]]) (by omega) (by rw [List.length_append, List.length_singleton]; omega)
    rw [List.append_assoc, List.singleton_append, ← drop_cons l i hlt] at this
    refine Ev.step (fun k => ?_) this
    rw [codesearchref33_with.l0, if_pos (show (i : Int) < (l.length : Int) by omega), if_pos rfl, if_pos (by omega), if_pos (by omega), rd_nat l i hlt, w1 i (by omega)]
  have key0 : ∀ d (i : Nat) (acc : List Int), i + d = l.length → acc.length ≤ i → Ev (fun k => codesearchref33_with.l0 k l n acc false (i : Int)) (acc ++ insM n (l.drop i)) := by
   intro d
   induction d with
   | zero =>
    intro i acc hi ha
    rw [List.drop_of_length_le (by omega), insM]
    refine Ev.step (f := fun _ => some (acc ++ [n])) (fun k => ?_) (Ev.now _)
    rw [codesearchref33_with.l0, if_neg (by omega), if_neg (by decide), if_pos (by omega)]
   | succ d ih =>
    intro i acc hi ha
    have hlt : i < l.length := by omega
    rw [drop_cons l i hlt, insM]
    by_cases hn : n < l[i]
    ·rw [if_pos hn]
     have := key1 d (i + 1) (acc ++ [n] ++ [l[i]]) (by omega) (by simp; omega)
     simp only [List.append_assoc, List.singleton_append, List.cons_append, List.nil_append] at this
     refine Ev.step (fun k => ?_) this
     rw [codesearchref33_with.l0, if_pos (show (i : Int) < (l.length : Int) by omega), if_neg (by decide), if_pos (by omega), rd_nat l i hlt, if_pos hn, if_pos (by omega), Option.bind_some, if_pos (by simp; omega), w1 i (by omega)]
     simp only [List.append_assoc, List.singleton_append, List.cons_append, List.nil_append]
    ·rw [if_neg hn]
     have := ih (i + 1) (acc ++ [l[i]]) (by omega) (by rw [List.length_append, List.length_singleton]; omega)
     rw [List.append_assoc, List.singleton_append] at this
     refine Ev.step (fun k => ?_) this
     rw [codesearchref33_with.l0, if_pos (show (i : Int) < (l.length : Int) by omega), if_neg (by decide), if_pos (by omega), rd_nat l i hlt, if_neg hn, if_pos (by omega), w1 i (by omega)]
  have := key0 l.length 0 [] (by omega) (by simp)
  rw [List.drop_zero, List.nil_append] at this
  exact this
theorem rLive_is (l : List SE) (hl : l.length ≤ 1000) (hf : ∀ e ∈ l, fit 1000 e) : Ev (fun k => codesearchref33_Live.f k l) (runM l).1 := by
 have key : ∀ d (i : Nat), i + d = l.length → Ev (fun k => codesearchref33_Live.l0 k l (runM (l.take i)).1 (i : Int)) (runM l).1 := by
  intro d
  induction d with
  | zero =>
   intro i hi
   rw [List.take_of_length_le (by omega)]
   refine Ev.step (f := fun _ => some (runM l).1) (fun k => ?_) (Ev.now _)
   rw [codesearchref33_Live.l0, if_neg (by omega)]
  | succ d ih =>
   intro i hi
   have hlt : i < l.length := by omega
   have hb := (runM_len (l.take i) 1000 (fun e he => hf e (List.mem_of_mem_take he))).1
   rw [List.length_take] at hb
   have hn : Nat.min i l.length ≤ 1000 := Nat.le_trans (Nat.min_le_right _ _) hl
   have hs := (runM_srt (l.take i)).1
   have hg := hf l[i] (List.getElem_mem _)
   have next := ih (i + 1) (by omega)
   rw [runM_snoc l i hlt] at next
   generalize runM (l.take i) = s at hb hs next
   have hb2 : s.1.length ≤ 1000 := Nat.le_trans hb hn
   refine Ev.step (fun k => by rw [codesearchref33_Live.l0, if_pos (show (i : Int) < (l.length : Int) by omega), if_pos (show (0 : Int) ≤ (i : Int) by omega), rdE_nat l i hlt]) ?_
   by_cases c3 : l[i].f1 = 3
   ·refine Ev.ite_pos c3 ?_
    have hloop : ∀ d (j : Nat) (acc : List Int), j + d = s.1.length → acc.length ≤ j → Ev (fun k => codesearchref33_Live.l1 k l s.1 (i : Int) acc (j : Int)) (runM l).1 ∨ acc ++ (s.1.drop j).filter (fun x => !decide (x ∈ l[i].f4)) ≠ minusS s.1 l[i].f4 := by
     intro d
     induction d with
     | zero =>
      intro j acc hj ha
      by_cases he : acc ++ (s.1.drop j).filter (fun x => !decide (x ∈ l[i].f4)) = minusS s.1 l[i].f4
      ·refine .inl ?_
       rw [List.drop_of_length_le (by omega), List.filter_nil, List.append_nil] at he
       subst he
       refine Ev.step (fun k => by rw [codesearchref33_Live.l1, if_neg (by omega), if_pos (show (0 : Int) ≤ (i : Int) by omega), if_pos (show (i : Int) < (l.length : Int) by omega), rdE_nat l i hlt, if_neg (by omega), if_pos c3, w1 i (by omega)]) ?_
       refine Ev.bind (with_is l[i].f2 (minusS_srt _ _) (by omega)) ?_
       rw [show orS (minusS s.1 l[i].f4) [l[i].f2] = (afterM s l[i]).1 by rw [afterM, if_neg (by omega), if_neg (by omega), if_pos c3]]
       exact next
      ·exact .inr he
     | succ d ih2 =>
      intro j acc hj ha
      have hlt2 : j < s.1.length := by omega
      rw [drop_cons s.1 j hlt2]
      have st : ∀ (acc2 : List Int) (r : List Int), Ev (fun k => codesearchref33_Live.l1 k l s.1 (i : Int) acc2 ((j + 1 : Nat) : Int)) r → (∀ k, (if (decide (s.1[j] ∈ l[i].f4)) = true then (codesearchref33_Live.l1 k l s.1 (i : Int) acc ((j + 1 : Nat) : Int)) else (if acc.length < 17592186044416 then (codesearchref33_Live.l1 k l s.1 (i : Int) (acc ++ [s.1[j]]) ((j + 1 : Nat) : Int)) else none)) = codesearchref33_Live.l1 k l s.1 (i : Int) acc2 ((j + 1 : Nat) : Int)) → Ev (fun k => codesearchref33_Live.l1 k l s.1 (i : Int) acc (j : Int)) r := by
       intro acc2 r h1 h2
       refine Ev.step (fun k => by rw [codesearchref33_Live.l1, if_pos (show (j : Int) < (s.1.length : Int) by omega), if_pos (show (0 : Int) ≤ (i : Int) by omega), if_pos (show (i : Int) < (l.length : Int) by omega), if_pos (show (0 : Int) ≤ (j : Int) by omega), rdE_nat l i hlt, rd_nat s.1 j hlt2, w1 j (by omega)]) ?_
       refine Ev.bind (has_is l[i].f4 s.1[j] (by have := hg.2; omega)) ?_
       exact Ev.congr h2 h1
      by_cases hm : s.1[j] ∈ l[i].f4
      ·rw [List.filter_cons_of_neg (by simp [hm])]
       refine (ih2 (j + 1) acc (by omega) (by omega)).imp (fun h => st acc _ h (fun k => by rw [decide_eq_true hm, if_pos rfl])) id
      ·rw [List.filter_cons_of_pos (by simp [hm])]
       have := ih2 (j + 1) (acc ++ [s.1[j]]) (by omega) (by rw [List.length_append, List.length_singleton]; omega)
       rw [List.append_assoc, List.singleton_append] at this
       refine this.imp (fun h => st (acc ++ [s.1[j]]) _ h (fun k => by rw [decide_eq_false hm, if_neg (by decide), if_pos (by omega)])) id
    refine (hloop s.1.length 0 [] (by omega) (by simp)).resolve_right (fun e => e ?_)
    rw [List.drop_zero, List.nil_append]
    refine srt_ext (hs.filter _) (minusS_srt _ _) (fun x => ?_)
    rw [List.mem_filter, mem_minusS]
    simp
   ·refine Ev.ite_neg c3 ?_
    by_cases c1 : l[i].f1 = 1
    ·refine Ev.ite_pos c1 (Ev.congr (fun k => by rw [w1 i (by omega)]) (Ev.bind (with_is l[i].f2 hs (by omega)) ?_))
     rw [show orS s.1 [l[i].f2] = (afterM s l[i]).1 by rw [afterM, if_pos c1]]
     exact next
    ·refine Ev.ite_neg c1 (Ev.congr (fun k => by rw [w1 i (by omega)]) ?_)
     rw [show (afterM s l[i]).1 = s.1 by rw [afterM, if_neg c1]; split <;> first | rfl | (split <;> first | rfl | (exfalso; omega))] at next
     exact next
 exact key l.length 0 (by omega)

/-! Chapter 33: Right, of the program. -/
def segE (e : SE) : Bool := decide (e.f1 = 1) || e.f1 == 3
def docE (e : SE) : Bool := decide (e.f1 = 2) || e.f1 == 4
def fieldsM (br : List ByteArray → Bool) (e : SE) : Bool :=
 if (decide (e.f1 < 1) || decide (e.f1 > 4)) = true then false
 else if ((!segE e && (e.f2 != 0)) || (!docE e && decide ((e.f3.length : Int) > 0))) = true then false
 else if ((!decide (e.f1 = 3) && decide ((e.f4.length : Int) > 0)) || (!decide (e.f1 = 4) && decide ((e.f5.length : Int) > 0))) = true then false
 else if (segE e && (decide (e.f2 < 1) || decide (e.f2 > 9999))) = true then false
 else if okV (-1) e.f3 = true then (if okV (-1) e.f4 = true then (if e.f1 = 4 then (if (e.f3.length : Int) < 2 then br e.f5 else false) else true) else false) else false
theorem fields_is (br : List ByteArray → Bool) (e : SE) (h3 : e.f3.length ≤ 1000000) (h4 : e.f4.length ≤ 1000000) (hb : e.f1 = 4 → Ev (fun k => manifest_branches.f k e.f5) (br e.f5)) : Ev (fun k => manifest_fields.f k e.f0 e.f1 e.f2 e.f3 e.f4 e.f5) (fieldsM br e) := by
 unfold fieldsM
 refine Ev.congr (f := fun k => manifest_fields.j0 k (segE e) e.f0 e.f1 e.f2 e.f3 e.f4 e.f5) (fun k => by rw [manifest_fields.f, segE]; by_cases h : e.f1 = 1 <;> simp [h]) ?_
 refine Ev.step (f := fun k => manifest_fields.j1 k (segE e) (docE e) e.f0 e.f1 e.f2 e.f3 e.f4 e.f5) (fun k => by rw [manifest_fields.j0, docE]; by_cases h : e.f1 = 2 <;> simp [h]) ?_
 refine Ev.step (f := fun k => manifest_fields.j2 k (segE e) (docE e) (decide (e.f1 < 1) || decide (e.f1 > 4)) e.f0 e.f1 e.f2 e.f3 e.f4 e.f5) (fun k => by rw [manifest_fields.j1]; by_cases h : e.f1 < 1 <;> simp [h]) ?_
 by_cases c1 : (decide (e.f1 < 1) || decide (e.f1 > 4)) = true
 ·rw [if_pos c1]
  exact Ev.step (f := fun k => some false) (fun k => by rw [manifest_fields.j2, if_pos c1]) (Ev.now _)
 rw [if_neg c1]
 refine Ev.step (f := fun k => manifest_fields.j3 k (segE e) (docE e) (!segE e && (e.f2 != 0)) e.f0 e.f1 e.f2 e.f3 e.f4 e.f5) (fun k => by rw [manifest_fields.j2, if_neg c1]; cases segE e <;> simp) ?_
 refine Ev.step (f := fun k => manifest_fields.j4 k (segE e) ((!segE e && (e.f2 != 0)) || (!docE e && decide ((e.f3.length : Int) > 0))) e.f0 e.f1 e.f2 e.f3 e.f4 e.f5) (fun k => by rw [manifest_fields.j3]; cases (!segE e && (e.f2 != 0)) <;> cases docE e <;> simp) ?_
 by_cases c2 : ((!segE e && (e.f2 != 0)) || (!docE e && decide ((e.f3.length : Int) > 0))) = true
 ·rw [if_pos c2]
  exact Ev.step (f := fun k => some false) (fun k => by rw [manifest_fields.j4, if_pos c2]) (Ev.now _)
 rw [if_neg c2]
 refine Ev.step (f := fun k => manifest_fields.j5 k (segE e) (!decide (e.f1 = 3) && decide ((e.f4.length : Int) > 0)) e.f0 e.f1 e.f2 e.f3 e.f4 e.f5) (fun k => by rw [manifest_fields.j4, if_neg c2]; by_cases h : e.f1 = 3 <;> simp [h]) ?_
 refine Ev.step (f := fun k => manifest_fields.j6 k (segE e) ((!decide (e.f1 = 3) && decide ((e.f4.length : Int) > 0)) || (!decide (e.f1 = 4) && decide ((e.f5.length : Int) > 0))) e.f0 e.f1 e.f2 e.f3 e.f4 e.f5) (fun k => by rw [manifest_fields.j5]; cases (!decide (e.f1 = 3) && decide ((e.f4.length : Int) > 0)) <;> by_cases h : e.f1 = 4 <;> simp [h]) ?_
 by_cases c3 : ((!decide (e.f1 = 3) && decide ((e.f4.length : Int) > 0)) || (!decide (e.f1 = 4) && decide ((e.f5.length : Int) > 0))) = true
 ·rw [if_pos c3]
  exact Ev.step (f := fun k => some false) (fun k => by rw [manifest_fields.j6, if_pos c3]) (Ev.now _)
 rw [if_neg c3]
 refine Ev.step (f := fun k => manifest_fields.j7 k (segE e && (decide (e.f2 < 1) || decide (e.f2 > 9999))) e.f0 e.f1 e.f2 e.f3 e.f4 e.f5) (fun k => by rw [manifest_fields.j6, if_neg c3]; cases segE e <;> by_cases h : e.f2 < 1 <;> simp [h]) ?_
 by_cases c4 : (segE e && (decide (e.f2 < 1) || decide (e.f2 > 9999))) = true
 ·rw [if_pos c4]
  exact Ev.step (f := fun k => some false) (fun k => by rw [manifest_fields.j7, if_pos c4]) (Ev.now _)
 rw [if_neg c4]
 refine Ev.step (fun k => by rw [manifest_fields.j7, if_neg c4]) (Ev.bind (Valid_is e.f3 (by omega)) ?_)
 by_cases c5 : okV (-1) e.f3 = true
 ·rw [if_pos c5]
  refine Ev.ite_pos c5 (Ev.bind (Valid_is e.f4 (by omega)) ?_)
  by_cases c6 : okV (-1) e.f4 = true
  ·rw [if_pos c6]
   refine Ev.ite_pos c6 ?_
   by_cases c7 : e.f1 = 4
   ·rw [if_pos c7]
    refine Ev.ite_pos c7 ?_
    by_cases c8 : (e.f3.length : Int) < 2
    ·rw [if_pos c8]
     exact Ev.ite_pos c8 (Ev.bind (hb c7) (Ev.now _))
    ·rw [if_neg c8]
     exact Ev.ite_neg c8 (Ev.now _)
   ·rw [if_neg c7]
    exact Ev.ite_neg c7 (Ev.now _)
  ·rw [if_neg c6]
   exact Ev.ite_neg c6 (Ev.now _)
 ·rw [if_neg c5]
  exact Ev.ite_neg c5 (Ev.now _)
theorem Contains_is (l : List Int) (n : Int) (hl : l.length ≤ 9223372036854775000) : Ev (fun k => slices_Contains_int_int.f k l n) (decide (n ∈ l)) := by
 have key : ∀ d (i : Nat), i + d = l.length → ∃ r, Ev (fun k => slices_Index_int_int.l0 k l n (l.length : Int) (i : Int)) r ∧ (decide (r ≥ 0) = decide (n ∈ l.drop i)) := by
  intro d
  induction d with
  | zero =>
   intro i hi
   rw [List.drop_of_length_le (by omega)]
   refine ⟨-1, Ev.step (f := fun _ => some (-1)) (fun k => ?_) (Ev.now _), by simp⟩
   rw [slices_Index_int_int.l0, if_neg (show ¬ (i : Int) < (l.length : Int) by omega)]
  | succ d ih =>
   intro i hi
   have hlt : i < l.length := by omega
   rw [drop_cons l i hlt]
   by_cases h : l[i] = n
   ·refine ⟨(i : Int), Ev.step (f := fun _ => some (i : Int)) (fun k => ?_) (Ev.now _), ?_⟩
    ·rw [slices_Index_int_int.l0, if_pos (show (i : Int) < (l.length : Int) by omega), if_pos (show (0 : Int) ≤ (i : Int) by omega), if_pos (show (i : Int) < (l.length : Int) by omega), rd_nat l i hlt]
     first | rw [if_pos h] | rw [if_pos h.symm]
    ·rw [decide_eq_true (show (i : Int) ≥ 0 by omega), decide_eq_true (show n ∈ l[i] :: l.drop (i + 1) by rw [h]; exact List.mem_cons_self)]
   ·obtain ⟨r, h1, h2⟩ := ih (i + 1) (by omega)
    refine ⟨r, Ev.step (fun k => ?_) h1, ?_⟩
    ·rw [slices_Index_int_int.l0, if_pos (show (i : Int) < (l.length : Int) by omega), if_pos (show (0 : Int) ≤ (i : Int) by omega), if_pos (show (i : Int) < (l.length : Int) by omega), rd_nat l i hlt, w1 i (by omega)]
     first | rw [if_neg h] | rw [if_neg (fun e => h e.symm)]
    ·rw [h2]
     exact decide_eq_decide.2 (by rw [List.mem_cons]; exact ⟨.inr, fun h2 => h2.resolve_left (fun e => h e.symm)⟩)
 obtain ⟨r, h1, h2⟩ := key l.length 0 (by omega)
 rw [List.drop_zero] at h2
 rw [← h2]
 exact Ev.bind h1 (Ev.now _)
/-- The error of the entry with index i, after a state. -/
def checkM (br : List ByteArray → Bool) (s : ST) (i : Nat) (e : SE) : Int :=
 if e.f0 = ((i + 1 : Nat) : Int) then (if fieldsM br e = true then (if (segE e && decide (e.f2 ≤ s.2.2)) = true then 7 else if (e.f4.all fun n => decide (n ∈ s.1)) = true then
  (if (docE e && ((e.f3.length : Int) == 0)) = true then 1 else if (decide (e.f1 = 3) && ((e.f4.length : Int) == 0)) = true then 1 else 0) else 8) else 1) else 2
theorem check_is (br : List ByteArray → Bool) (s : ST) (i : Nat) (e : SE) (hi : i ≤ 1000000) (hs : s.1.length ≤ 1000000) (h3 : e.f3.length ≤ 1000000) (h4 : e.f4.length ≤ 1000000) (hb : e.f1 = 4 → Ev (fun k => manifest_branches.f k e.f5) (br e.f5)) :
  Ev (fun k => manifest_check.f k s.1 s.2.1 s.2.2 (i : Int) e.f0 e.f1 e.f2 e.f3 e.f4 e.f5) (checkM br s i e) := by
 unfold checkM
 refine Ev.congr (fun k => by rw [manifest_check.f, w1 i (by omega)]) ?_
 by_cases c0 : e.f0 = ((i + 1 : Nat) : Int)
 ·rw [if_pos c0]
  refine Ev.ite_pos c0 (Ev.bind (fields_is br e h3 h4 hb) ?_)
  by_cases c1 : fieldsM br e = true
  ·rw [if_pos c1]
   refine Ev.ite_pos c1 (Ev.congr (f := fun k => manifest_check.j0 k (segE e) s.1 s.2.1 s.2.2 e.f0 e.f1 e.f2 e.f3 e.f4 e.f5) (fun k => by rw [segE]; by_cases h : e.f1 = 1 <;> simp [h]) ?_)
   refine Ev.step (f := fun k => manifest_check.j1 k (segE e && decide (e.f2 ≤ s.2.2)) s.1 s.2.1 s.2.2 e.f0 e.f1 e.f2 e.f3 e.f4 e.f5) (fun k => by rw [manifest_check.j0]; cases segE e <;> simp) ?_
   by_cases c2 : (segE e && decide (e.f2 ≤ s.2.2)) = true
   ·rw [if_pos c2]
    exact Ev.step (f := fun k => some 7) (fun k => by rw [manifest_check.j1, if_pos c2]) (Ev.now _)
   rw [if_neg c2]
   refine Ev.step (fun k => by rw [manifest_check.j1, if_neg c2]) ?_
   have key : ∀ d (j : Nat), j + d = e.f4.length → Ev (fun k => manifest_check.l0 k e.f4 (e.f4.length : Int) (j : Int) s.1 s.2.1 s.2.2 e.f0 e.f1 e.f2 e.f3 e.f4 e.f5) (if ((e.f4.drop j).all fun n => decide (n ∈ s.1)) = true then (if (docE e && ((e.f3.length : Int) == 0)) = true then 1 else if (decide (e.f1 = 3) && ((e.f4.length : Int) == 0)) = true then 1 else 0) else 8) := by
    intro d
    induction d with
    | zero =>
     intro j hj
     rw [List.drop_of_length_le (by omega), List.all_nil, if_pos rfl]
     refine Ev.step (f := fun k => some (if (docE e && ((e.f3.length : Int) == 0)) = true then 1 else if (decide (e.f1 = 3) && ((e.f4.length : Int) == 0)) = true then 1 else 0)) (fun k => ?_) (Ev.now _)
     rw [manifest_check.l0, if_neg (by omega), docE]
     by_cases a2 : e.f1 = 2
     ·by_cases a3 : e.f3 = [] <;> simp [a2, a3]
     ·by_cases a4 : e.f1 = 4
      ·by_cases a3 : e.f3 = [] <;> simp [a4, a3]
      ·by_cases a5 : e.f1 = 3
       ·by_cases a6 : e.f4 = [] <;> simp [a5, a6]
       ·simp [a2, a4, a5]
    | succ d ih =>
     intro j hj
     have hlt : j < e.f4.length := by omega
     rw [drop_cons e.f4 j hlt, List.all_cons]
     refine Ev.step (fun k => by rw [manifest_check.l0, if_pos (show (j : Int) < (e.f4.length : Int) by omega), if_pos (show (0 : Int) ≤ (j : Int) by omega), if_pos (show (j : Int) < (e.f4.length : Int) by omega), rd_nat e.f4 j hlt, w1 j (by omega)]) (Ev.bind (Contains_is s.1 _ (by omega)) ?_)
     by_cases hm : e.f4[j] ∈ s.1
     ·rw [decide_eq_true hm, Bool.true_and]
      exact Ev.ite_pos rfl (ih (j + 1) (by omega))
     ·rw [decide_eq_false hm, Bool.false_and, if_neg (by decide)]
      exact Ev.ite_neg (by decide) (Ev.now _)
   have := key e.f4.length 0 (by omega)
   rw [List.drop_zero] at this
   exact this
  ·rw [if_neg c1]
   exact Ev.ite_neg c1 (Ev.now _)
 ·rw [if_neg c0]
  exact Ev.ite_neg c0 (Ev.now _)
/-- The first error, from index i on. -/
def rightGo (br : List ByteArray → Bool) : ST → Nat → List SE → Int
 | _, _, [] => 0
 | s, i, e :: l => if checkM br s i e = 0 then rightGo br (afterM s e) (i + 1) l else checkM br s i e
def rightM (br : List ByteArray → Bool) (l : List SE) : Int := rightGo br ([], [], 0) 0 l
theorem Right_is (br : List ByteArray → Bool) (l : List SE) (hl : l.length ≤ 1000) (hf : ∀ e ∈ l, fit 1000 e) (hb : ∀ e ∈ l, e.f1 = 4 → Ev (fun k => manifest_branches.f k e.f5) (br e.f5)) : Ev (fun k => manifest_Right.f k l) (rightM br l) := by
 have key : ∀ d (i : Nat) (s : ST), i + d = l.length → s.1.length ≤ i → s.2.1.length ≤ i * 1000 → Ev (fun k => manifest_Right.l0 k l (l.length : Int) (i : Int) s.1 s.2.1 s.2.2) (rightGo br s i (l.drop i)) := by
  intro d
  induction d with
  | zero =>
   intro i s hi _ _
   rw [List.drop_of_length_le (by omega), rightGo]
   refine Ev.step (f := fun _ => some 0) (fun k => ?_) (Ev.now _)
   rw [manifest_Right.l0, if_neg (by omega)]
  | succ d ih =>
   intro i s hi h1 h2
   have hlt : i < l.length := by omega
   have hg := hf l[i] (List.getElem_mem _)
   rw [drop_cons l i hlt, rightGo]
   refine Ev.step (fun k => by rw [manifest_Right.l0, if_pos (show (i : Int) < (l.length : Int) by omega), if_pos (show (0 : Int) ≤ (i : Int) by omega), if_pos (show (i : Int) < (l.length : Int) by omega), rdE_nat l i hlt, w1 i (by omega)]) ?_
   refine Ev.bind (check_is br s i l[i] (by omega) (by omega) (by have := hg.1; omega) (by have := hg.2; omega) (hb _ (List.getElem_mem _))) ?_
   by_cases c : checkM br s i l[i] = 0
   ·rw [if_pos c]
    have hlen := after_len s l[i]
    refine Ev.ite_pos c (Ev.bind (after_is s l[i] (by omega) (by omega) ⟨by have := hg.1; omega, by have := hg.2; omega⟩) ?_)
    exact ih (i + 1) (afterM s l[i]) (by omega) (by omega) (by have := hg.1; omega)
   ·rw [if_neg c]
    exact Ev.ite_neg c (Ev.now _)
 have := key l.length 0 ([], [], 0) (by omega) (by simp) (by simp)
 rw [List.drop_zero] at this
 exact this

/-! Paths: what the program's ValidPath, and the document's, answer; and Under. -/
theorem bl_len (s : ByteArray) : (bl s).length = s.size := rfl
theorem toList_bl (s : ByteArray) : s.toList = bl s := ByteArray.toList_eq s
theorem toList_eq_iff {s t : ByteArray} : s.toList = t.toList ↔ s = t := by
 rw [toList_bl, toList_bl]; exact ⟨bl_inj, fun h => by rw [h]⟩
theorem bl_ext (s : ByteArray) (a b : Nat) : bl (s.extract a b) = ((bl s).drop a).take (b - a) := by
 unfold bl
 rw [ByteArray.data_extract, Array.toList_extract, List.extract_eq_take_drop]
theorem bt_bl (s : ByteArray) (j : Nat) (h : j < (bl s).length) : bt s (j : Int) = (((bl s)[j]).toNat : Int) := by
 have h' : j < s.size := h
 rw [bt, dif_pos (show ((j : Int)).toNat < s.size from h')]
 rfl
def okc (c : UInt8) : Bool := (97 ≤ c && c ≤ 122) || (65 ≤ c && c ≤ 90) || (48 ≤ c && c ≤ 57) || c == 46 || c == 95 || c == 45
set_option maxRecDepth 100000 in
theorem letter_is (c : UInt8) : glob_letter.f (c.toNat : Int) = some (okc c) := by
 have key : ∀ n : Fin 256, glob_letter.f ((n.val : Nat) : Int) = some (okc (UInt8.ofNat n.val)) := by decide +kernel
 have h := key ⟨c.toNat, c.toNat_lt⟩
 rwa [UInt8.ofNat_toNat] at h
/-- A name between slashes. -/
def okname (p : List UInt8) : Bool := decide (1 ≤ p.length) && (decide (p.length ≤ 24) && (decide (p ≠ [46]) && (decide (p ≠ [46, 46]) && p.all okc)))
def split47 : List UInt8 → List (List UInt8)
 | [] => [[]]
 | c :: l => if c = 47 then [] :: split47 l else match split47 l with
  | [] => [[c]]
  | p :: ps => (c :: p) :: ps
theorem split_none : ∀ {l : List UInt8}, (47 : UInt8) ∉ l → split47 l = [l]
 | [], _ => rfl
 | c :: l, h => by
  rw [List.mem_cons, not_or] at h
  rw [split47, if_neg (fun e => h.1 e.symm), split_none h.2]
theorem split_at : ∀ {p : List UInt8} (r : List UInt8), (47 : UInt8) ∉ p → split47 (p ++ 47 :: r) = p :: split47 r
 | [], r, _ => by rw [List.nil_append, split47, if_pos rfl]
 | c :: p, r, h => by
  rw [List.mem_cons, not_or] at h
  rw [List.cons_append, split47, if_neg (fun e => h.1 e.symm), split_at r h.2]
def validP (s : ByteArray) : Bool := decide (s.size ≤ 60) && (split47 (bl s)).all okname
/-! ### Split -/
theorem idx_of {l : List UInt8} (h : 0 < l.count 47) : ∃ o : Nat, Lib.indexByte l 47 = (o : Int) ∧ o < l.length ∧ (47 : UInt8) ∉ l.take o ∧ l = l.take o ++ 47 :: l.drop (o + 1) := by
 have h1 := Lib.indexByte_ge l 47
 have hne : Lib.indexByte l 47 ≠ -1 := by
  intro e
  have h2 := Lib.indexByte_none e
  obtain ⟨i, hi, e2⟩ := List.mem_iff_getElem.1 (List.count_pos_iff.1 h)
  exact h2 i (by rw [List.getElem?_eq_getElem hi, e2])
 obtain ⟨o, ho⟩ : ∃ o : Nat, Lib.indexByte l 47 = (o : Int) := ⟨(Lib.indexByte l 47).toNat, by omega⟩
 obtain ⟨h2, h3⟩ := Lib.indexByte_some ho
 obtain ⟨hlt, he⟩ := List.getElem?_eq_some_iff.1 h2
 refine ⟨o, ho, hlt, fun hm => ?_, ?_⟩
 ·obtain ⟨i, hi, e2⟩ := List.mem_iff_getElem.1 hm
  rw [List.length_take] at hi
  refine h3 i (by omega) ?_
  rw [List.getElem?_eq_getElem (by omega), ← e2, List.getElem_take]
 ·rw [← he, ← List.drop_eq_getElem_cons hlt, List.take_append_drop]
theorem sepSize : ((⟨#[47]⟩ : ByteArray).size : Int) = 1 := rfl
theorem index47 (s : ByteArray) : strings_Index.f s ⟨#[47]⟩ = some (Lib.indexByte (bl s) 47) := by
 rw [strings_Index.f, if_pos (show (⟨#[47]⟩ : ByteArray).size = 1 from rfl)]; rfl
theorem gen_l0 : ∀ (d : Nat) (rest : ByteArray) (dn tl : List ByteArray), (bl rest).count 47 = d → tl.length = d + 1 → rest.size ≤ 100000 → dn.length + d ≤ 100000 →
  Ev (fun k => strings_genSplit.l0 k rest ⟨#[47]⟩ 0 ((dn.length + d : Nat) : Int) (dn ++ tl) (dn.length : Int)) (dn ++ (split47 (bl rest)).map ofB) := by
 intro d
 induction d with
 | zero =>
  intro rest dn tl hc ht hs hn
  have hno : (47 : UInt8) ∉ bl rest := by intro hm; have := List.count_pos_iff.2 hm; omega
  obtain ⟨v, rfl⟩ := List.length_eq_one_iff.1 ht
  refine Ev.step (f := fun _ => some (dn ++ (split47 (bl rest)).map ofB)) (fun k => ?_) (Ev.now _)
  have hlen : ((dn ++ [v]).length : Int) = (dn.length : Int) + 1 := by rw [List.length_append]; simp
  rw [strings_genSplit.l0, if_neg (by omega), if_pos (by omega), if_pos (by omega), w64 (by omega) (by omega), if_pos (by omega), if_pos (by omega), split_none hno]
  congr 1
  rw [Int.toNat_natCast, show ((dn.length : Int) + 1).toNat = dn.length + 1 by omega, List.set_append_right _ _ (Nat.le_refl _), Nat.sub_self, List.set_cons_zero, List.take_append, List.take_of_length_le (by omega)]
  simp [ofB_bl]
 | succ d ih =>
  intro rest dn tl hc ht hs hn
  obtain ⟨o, ho, hol, hno, hsp⟩ := idx_of (l := bl rest) (by omega)
  obtain ⟨v, tl', rfl⟩ : ∃ v tl', tl = v :: tl' := by cases tl with
   | nil => simp at ht
   | cons a b => exact ⟨a, b, rfl⟩
  rw [bl_len] at hol
  have hlen : ((dn ++ v :: tl').length : Int) = (dn.length : Int) + d + 2 := by rw [List.length_append]; simp at ht ⊢; omega
  have hr : bl (rest.extract (o + 1) rest.size) = (bl rest).drop (o + 1) := by
   rw [bl_ext, List.take_of_length_le]
   rw [List.length_drop, bl_len]
   omega
  have hp : bl (rest.extract 0 o) = (bl rest).take o := by rw [bl_ext, List.drop_zero, Nat.sub_zero]
  have hc2 : (bl (rest.extract (o + 1) rest.size)).count 47 = d := by
   rw [hr]
   have h1 := congrArg (List.count 47) hsp
   rw [List.count_append, List.count_cons_self, List.count_eq_zero_of_not_mem hno, hc] at h1
   omega
  have := ih (rest.extract (o + 1) rest.size) (dn ++ [rest.extract 0 o]) tl' hc2 (by simpa using ht) (by rw [ByteArray.size_extract]; omega) (by rw [List.length_append, List.length_singleton]; omega)
  rw [hr] at this
  refine Ev.step (fun k => ?_) (Ev.congr (fun k => rfl) (show Ev (fun k => strings_genSplit.l0 k (rest.extract (o + 1) rest.size) ⟨#[47]⟩ 0 ((dn.length + (d + 1) : Nat) : Int) ((dn ++ [rest.extract 0 o]) ++ tl') (((dn ++ [rest.extract 0 o]).length : Nat) : Int)) (dn ++ (split47 (bl rest)).map ofB) from ?_))
  ·rw [strings_genSplit.l0, if_pos (by omega), index47, Option.bind_some, ho, if_neg (by omega), sepSize, w64 (by omega) (by omega), if_pos (by omega), if_pos (by omega), if_pos (by omega), if_pos (by omega), w64 (by omega) (by omega), if_pos (by omega), if_pos (by omega), w64 (by omega) (by omega)]
   rw [show ((o : Int) + 1).toNat = o + 1 by omega, show ((o : Int) + 0).toNat = o by omega, Int.toNat_natCast, List.set_append_right _ _ (Nat.le_refl _), Nat.sub_self, List.set_cons_zero]
   rw [show ((dn ++ [rest.extract 0 o]).length : Int) = (dn.length : Int) + 1 by rw [List.length_append]; simp]
   rw [List.append_assoc]; rfl
  ·rw [List.length_append, List.length_singleton] at this ⊢
   rw [show dn.length + (d + 1) = dn.length + 1 + d by omega]
   have e : dn ++ (split47 (bl rest)).map ofB = (dn ++ [rest.extract 0 o]) ++ (split47 ((bl rest).drop (o + 1))).map ofB := by
    conv => lhs; rw [hsp]
    rw [split_at _ hno, List.map_cons, ← hp, ofB_bl, List.append_assoc]; rfl
   rw [e]
   exact this
theorem Split_is (s : ByteArray) (hs : s.size ≤ 60) : Ev (fun k => strings_Split.f k s ⟨#[47]⟩) ((split47 (bl s)).map ofB) := by
 have hc : (bl s).count 47 ≤ s.size := List.count_le_length
 refine Ev.congr (fun k => by rw [strings_Split.f, strings_genSplit.f, if_neg (by decide), if_neg (show ¬ (⟨#[47]⟩ : ByteArray).toList = [] by rw [ByteArray.toList_eq]; decide), if_pos (by decide)]) (Ev.bind (a := (split47 (bl s)).map ofB) ?_ (Ev.now _))
 have hcf : strings_Count.f s ⟨#[47]⟩ = some ((((bl s).count 47 : Nat)) : Int) := by rw [strings_Count.f, if_pos (show (⟨#[47]⟩ : ByteArray).size = 1 from rfl)]; rfl
 refine Ev.bind_eq hcf (Ev.step (fun k => by rw [strings_genSplit.j0]) ?_)
 have hm : mn (wrap64 ((((bl s).count 47 : Nat) : Int) + 1)) (wrap64 ((s.size : Int) + 1)) = (((bl s).count 47 : Nat) : Int) + 1 := by
  rw [w64 (by omega) (by omega), w64 (by omega) (by omega), mn_of]; omega
 rw [hm]
 refine Ev.ite_pos (by omega) (Ev.ite_pos (by omega) ?_)
 have := gen_l0 ((bl s).count 47) s [] (List.replicate ((bl s).count 47 + 1) ⟨#[]⟩) rfl (by simp) (by omega) (by simp; omega)
 rw [w64 (by omega) (by omega), show ((((bl s).count 47 : Nat) : Int) + 1).toNat = (bl s).count 47 + 1 by omega, show (((bl s).count 47 : Nat) : Int) + 1 - 1 = (((bl s).count 47 : Nat) : Int) by omega]
 simpa using this
/-! ### ValidPath -/
theorem Valid_l1 (p : ByteArray) (parts : List ByteArray) (i : Nat) (r : Bool) (hp : p.size ≤ 100000) (hi : i ≤ 100000) (hr : Ev (fun k => glob_ValidPath.l0 k parts (parts.length : Int) ((i + 1 : Nat) : Int)) r) :
  ∀ d (j : Nat), j + d = p.size → Ev (fun k => glob_ValidPath.l1 k p (j : Int) parts (parts.length : Int) (i : Int)) (((bl p).drop j).all okc && r) := by
 intro d
 induction d with
 | zero =>
  intro j hj
  rw [List.drop_of_length_le (by rw [bl_len]; omega)]
  refine Ev.step (fun k => ?_) (by simpa using hr)
  rw [glob_ValidPath.l1, if_pos (by omega), w64 (by omega) (by omega)]
  try rfl
 | succ d ih =>
  intro j hj
  have hlt : j < (bl p).length := by rw [bl_len]; omega
  rw [drop_cons _ j hlt, List.all_cons]
  refine Ev.step (fun k => by rw [glob_ValidPath.l1, if_neg (by omega), if_pos (by omega), if_pos (by omega), bt_bl p j hlt, letter_is, Option.bind_some]) ?_
  by_cases h : okc (bl p)[j] = true
  ·rw [h, Bool.true_and]
   refine Ev.ite_pos (by trivial) (Ev.congr (fun k => ?_) (ih (j + 1) (by omega)))
   rw [w64 (by omega) (by omega)]; rfl
  ·rw [Bool.eq_false_iff.2 h]
   rw [Bool.false_and]
   exact Ev.ite_neg (by simp) (Ev.now _)
theorem Valid_l0 (parts : List ByteArray) (hn : parts.length ≤ 100000) (hs : ∀ p ∈ parts, p.size ≤ 100000) : ∀ d (i : Nat), i + d = parts.length →
  Ev (fun k => glob_ValidPath.l0 k parts (parts.length : Int) (i : Int)) ((parts.drop i).all fun p => okname (bl p)) := by
 intro d
 induction d with
 | zero =>
  intro i hi
  rw [List.drop_of_length_le (by omega)]
  refine Ev.step (f := fun _ => some true) (fun k => ?_) (Ev.now _)
  rw [glob_ValidPath.l0, if_neg (by omega)]
 | succ d ih =>
  intro i hi
  have hlt : i < parts.length := by omega
  rw [drop_cons parts i hlt, List.all_cons]
  refine Ev.step (fun k => by rw [glob_ValidPath.l0, if_pos (show (i : Int) < (parts.length : Int) by omega), if_pos (by omega), if_pos (show (i : Int) < (parts.length : Int) by omega), rdOf_nat _ _ i hlt]) ?_
  have hps := hs parts[i] (List.getElem_mem _)
  generalize parts[i] = p at hps
  have hf : okname (bl p) = false → Ev (fun k => glob_ValidPath.j1 k p parts (parts.length : Int) (i : Int) true) (okname (bl p) && ((parts.drop (i + 1)).all fun p => okname (bl p))) := by
   intro e
   rw [e, Bool.false_and]
   refine Ev.step (f := fun _ => some false) (fun k => ?_) (Ev.now _)
   rw [glob_ValidPath.j1, if_pos rfl]
  rw [toList_bl]
  by_cases h1 : bl p = [46]
  ·exact Ev.ite_pos h1 (hf (by rw [h1]; decide))
  refine Ev.ite_neg h1 ?_
  by_cases h2 : bl p = [46, 46]
  ·exact Ev.ite_pos h2 (hf (by rw [h2]; decide))
  refine Ev.ite_neg h2 ?_
  by_cases h3 : (p.size : Int) < 1
  ·exact Ev.ite_pos h3 (hf (by rw [okname, decide_eq_false (by rw [bl_len]; omega), Bool.false_and]))
  refine Ev.ite_neg h3 ?_
  by_cases h4 : (p.size : Int) > 24
  ·rw [decide_eq_true h4]
   exact hf (by rw [okname, decide_eq_false (show ¬ (bl p).length ≤ 24 by rw [bl_len]; omega), Bool.false_and, Bool.and_false])
  rw [decide_eq_false h4]
  have e : okname (bl p) = (bl p).all okc := by
   rw [okname, decide_eq_true (show 1 ≤ (bl p).length by rw [bl_len]; omega), decide_eq_true (show (bl p).length ≤ 24 by rw [bl_len]; omega), decide_eq_true h1, decide_eq_true h2]; simp
  rw [e]
  refine Ev.step (fun k => by rw [glob_ValidPath.j1, if_neg (by decide)]) ?_
  exact Valid_l1 p parts i _ hps (by omega) (ih (i + 1) (by omega)) p.size 0 (by omega)
theorem split_len : ∀ (l : List UInt8), (split47 l).length = l.count 47 + 1
 | [] => rfl
 | c :: l => by
  have ih := split_len l
  rw [split47]
  by_cases h : c = 47
  ·subst h
   rw [if_pos rfl, List.length_cons, ih, List.count_cons_self]
  ·rw [if_neg h, List.count_cons_of_ne h]
   cases hsp : split47 l with
   | nil => rw [hsp] at ih; simp at ih
   | cons p ps => rw [hsp] at ih; simpa using ih
theorem split_size : ∀ (l : List UInt8), ∀ p ∈ split47 l, p.length ≤ l.length
 | [] => by simp [split47]
 | c :: l => by
  have ih := split_size l
  intro p hp
  rw [split47] at hp
  by_cases h : c = 47
  ·rw [if_pos h, List.mem_cons] at hp
   rcases hp with rfl | hp
   ·simp
   ·have := ih p hp; rw [List.length_cons]; omega
  ·rw [if_neg h] at hp
   cases hsp : split47 l with
   | nil => have := split_len l; rw [hsp] at this; simp at this
   | cons q qs =>
    rw [hsp] at hp ih
    rcases List.mem_cons.1 hp with rfl | hp
    ·have := ih q List.mem_cons_self; rw [List.length_cons, List.length_cons]; omega
    ·have := ih p (List.mem_cons_of_mem _ hp); rw [List.length_cons]; omega
theorem ValidPath_is (s : ByteArray) : Ev (fun k => glob_ValidPath.f k s) (validP s) := by
 by_cases h : (s.size : Int) > 60
 ·refine Ev.congr (fun k => ?_) (Ev.now _)
  rw [glob_ValidPath.f, if_pos h, validP, decide_eq_false (by omega), Bool.false_and]
 ·have hs : s.size ≤ 60 := by omega
  refine Ev.congr (fun k => by rw [glob_ValidPath.f, if_neg h]) (Ev.bind (Split_is s hs) ?_)
  have hl := split_len (bl s)
  have hc : (bl s).count 47 ≤ s.size := List.count_le_length
  have := Valid_l0 ((split47 (bl s)).map ofB) (by rw [List.length_map]; omega) (fun p hp => by
   obtain ⟨q, hq, rfl⟩ := List.mem_map.1 hp
   have := split_size _ q hq
   rw [bl_len] at this
   show q.length ≤ 100000
   omega) ((split47 (bl s)).map ofB).length 0 (by omega)
  rw [List.drop_zero, List.all_map] at this
  rw [validP, decide_eq_true hs, Bool.true_and]
  exact this

/-! Chapter 33: the branches of an entry, of the program. -/
/-- One branch behind the one before it. -/
def okB (p : Option ByteArray) (s : ByteArray) : Bool := !decide (0 ≤ Lib.indexByte (bl s) 47) && (validP s && (match p with | none => true | some t => Op.bytesLess t.toList s.toList))
def runB : Option ByteArray → List ByteArray → Bool
 | _, [] => true
 | p, s :: l => okB p s && runB (some s) l
def branchesM (l : List ByteArray) : Bool := runB none l && decide ((l.length : Int) > 0)
def prevB (l : List ByteArray) : Nat → Option ByteArray
 | 0 => none
 | i + 1 => l[i]?
theorem Contains47 (s : ByteArray) : strings_Contains.f s ⟨#[47]⟩ = some (decide (0 ≤ Lib.indexByte (bl s) 47)) := by
 rw [strings_Contains.f, index47, Option.bind_some]
theorem branches_is (l : List ByteArray) (hl : l.length ≤ 1000000) : Ev (fun k => manifest_branches.f k l) (branchesM l) := by
 have key : ∀ d (i : Nat), i + d = l.length → Ev (fun k => manifest_branches.l0 k l l (l.length : Int) (i : Int)) (runB (prevB l i) (l.drop i) && decide ((l.length : Int) > 0)) := by
  intro d
  induction d with
  | zero =>
   intro i hi
   rw [List.drop_of_length_le (by omega), runB, Bool.true_and]
   refine Ev.step (f := fun _ => some (decide ((l.length : Int) > 0))) (fun k => ?_) (Ev.now _)
   rw [manifest_branches.l0, if_neg (show ¬ (i : Int) < (l.length : Int) by omega)]
  | succ d ih =>
   intro i hi
   have hlt : i < l.length := by omega
   rw [drop_cons l i hlt, runB]
   refine Ev.step (fun k => by rw [manifest_branches.l0, if_pos (show (i : Int) < (l.length : Int) by omega), if_pos (show (0 : Int) ≤ (i : Int) by omega), if_pos (show (i : Int) < (l.length : Int) by omega), rdOf_nat _ l i hlt, w1 i (by omega)]) ?_
   have next := ih (i + 1) (by omega)
   rw [show prevB l (i + 1) = some l[i] from List.getElem?_eq_getElem hlt] at next
   refine Ev.bind_eq (Contains47 l[i]) ?_
   by_cases c1 : 0 ≤ Lib.indexByte (bl l[i]) 47
   ·rw [show okB (prevB l i) l[i] = false by unfold okB; rw [decide_eq_true c1]; rfl, Bool.false_and, Bool.false_and]
    exact Ev.ite_pos (decide_eq_true c1) (Ev.now _)
   refine Ev.ite_neg (by rw [decide_eq_false c1]; decide) (Ev.bind (ValidPath_is l[i]) ?_)
   by_cases c2 : validP l[i] = true
   ·refine Ev.ite_pos c2 ?_
    cases i with
    | zero =>
     rw [show okB (prevB l 0) l[0] = true by unfold okB; rw [decide_eq_false c1, c2]; rfl, Bool.true_and]
     exact Ev.ite_neg (by simp) next
    | succ j =>
     have hj : j < l.length := by omega
     refine Ev.ite_pos (show ((j + 1 : Nat) : Int) > 0 by omega) ?_
     refine Ev.congr (fun k => by rw [show wrap64 (((j + 1 : Nat) : Int) - 1) = ((j : Nat) : Int) from (w64 (by omega) (by omega)).trans (by omega), if_pos (show (0 : Int) ≤ (j : Int) by omega), if_pos (show (j : Int) < (l.length : Int) by omega), rdOf_nat _ l j hj]) ?_
     rw [show okB (prevB l (j + 1)) l[j + 1] = Op.bytesLess l[j].toList l[j + 1].toList by unfold okB; rw [decide_eq_false c1, c2, show prevB l (j + 1) = some l[j] from List.getElem?_eq_getElem hj]; rfl]
     by_cases c3 : Op.bytesLess l[j].toList l[j + 1].toList = true
     ·rw [c3, Bool.true_and]
      exact Ev.ite_pos rfl next
     ·rw [show Op.bytesLess l[j].toList l[j + 1].toList = false by simpa using c3, Bool.false_and, Bool.false_and]
      exact Ev.ite_neg (by decide) (Ev.now _)
   ·rw [show okB (prevB l i) l[i] = false by unfold okB; rw [show validP l[i] = false by simpa using c2, Bool.false_and, Bool.and_false], Bool.false_and, Bool.false_and]
    exact Ev.ite_neg c2 (Ev.now _)
 have := key l.length 0 (by omega)
 rw [List.drop_zero] at this
 exact this

/-! Paths: the document's ValidPath; and Under, of both. -/
theorem rLD_is (c : UInt8) : codesearchref02_Letter.f (c.toNat : Int) = some ((97 ≤ c && c ≤ 122) || (65 ≤ c && c ≤ 90)) ∧ codesearchref02_Digit.f (c.toNat : Int) = some (48 ≤ c && c ≤ 57) := by
 have key : ∀ n : Fin 256, codesearchref02_Letter.f ((n.val : Nat) : Int) = some ((97 ≤ UInt8.ofNat n.val && UInt8.ofNat n.val ≤ 122) || (65 ≤ UInt8.ofNat n.val && UInt8.ofNat n.val ≤ 90)) ∧ codesearchref02_Digit.f ((n.val : Nat) : Int) = some (48 ≤ UInt8.ofNat n.val && UInt8.ofNat n.val ≤ 57) := by decide +kernel
 have h := key ⟨c.toNat, c.toNat_lt⟩
 rwa [UInt8.ofNat_toNat] at h
theorem u8_eq (c : UInt8) (n : Nat) (h : n < 256) : ((c.toNat : Int) = (n : Int)) ↔ c = UInt8.ofNat n := by
 constructor
 ·intro e
  have e2 : c.toNat = n := by omega
  rw [← e2, UInt8.ofNat_toNat]
 ·intro e
  rw [e, UInt8.toNat_ofNat']
  omega
theorem rname_l0 (p : ByteArray) (hp : p.size ≤ 100000) : ∀ d (j : Nat), j + d = p.size → Ev (fun k => codesearchref02_name.l0 k p (j : Int)) (((bl p).drop j).all okc) := by
 intro d
 induction d with
 | zero =>
  intro j hj
  rw [List.drop_of_length_le (by rw [bl_len]; omega)]
  refine Ev.step (f := fun _ => some true) (fun k => ?_) (Ev.now _)
  rw [codesearchref02_name.l0, if_neg (by omega)]
 | succ d ih =>
  intro j hj
  have hlt : j < (bl p).length := by rw [bl_len]; omega
  have hn := ih (j + 1) (by omega)
  rw [drop_cons _ j hlt, List.all_cons]
  have hw : wrap64 ((j : Int) + 1) = ((j + 1 : Nat) : Int) := by rw [w64 (by omega) (by omega)]; rfl
  refine Ev.step (fun k => by rw [codesearchref02_name.l0, if_pos (by omega), if_pos (by omega), bt_bl p j hlt, (rLD_is _).1, Option.bind_some, hw]) ?_
  generalize (bl p)[j] = c
  by_cases h1 : ((97 ≤ c && c ≤ 122) || (65 ≤ c && c ≤ 90)) = true
  ·refine Ev.ite_pos h1 ?_
   rw [okc, h1]; simpa using hn
  refine Ev.ite_neg h1 (Ev.bind_eq (rLD_is c).2 ?_)
  by_cases h2 : (48 ≤ c && c ≤ 57) = true
  ·refine Ev.ite_pos h2 ?_
   rw [okc, h2]; simpa using hn
  refine Ev.ite_neg h2 ?_
  by_cases h3 : c = 46
  ·refine Ev.ite_pos ((u8_eq c 46 (by omega)).2 h3) ?_
   rw [okc, h3]; simpa using hn
  refine Ev.ite_neg (fun e => h3 ((u8_eq c 46 (by omega)).1 e)) ?_
  by_cases h4 : c = 95
  ·refine Ev.ite_pos ((u8_eq c 95 (by omega)).2 h4) ?_
   rw [okc, h4]; simpa using hn
  refine Ev.ite_neg (fun e => h4 ((u8_eq c 95 (by omega)).1 e)) ?_
  by_cases h5 : c = 45
  ·refine Ev.ite_pos ((u8_eq c 45 (by omega)).2 h5) ?_
   rw [okc, h5]; simpa using hn
  refine Ev.ite_neg (fun e => h5 ((u8_eq c 45 (by omega)).1 e)) ?_
  have e : okc c = false := by
   rw [okc, Bool.eq_false_iff.2 h1, Bool.eq_false_iff.2 h2, beq_eq_false_iff_ne.2 h3, beq_eq_false_iff_ne.2 h4, beq_eq_false_iff_ne.2 h5]; rfl
  rw [e, Bool.false_and]
  exact Ev.now _
theorem rname_is (p : ByteArray) (hp : p.size ≤ 100000) : Ev (fun k => codesearchref02_name.f k p) (okname (bl p)) := by
 have hf : okname (bl p) = false → Ev (fun k => codesearchref02_name.j0 k p true) (okname (bl p)) := by
  intro e
  rw [e]
  refine Ev.step (f := fun _ => some false) (fun k => ?_) (Ev.now _)
  rw [codesearchref02_name.j0, if_pos rfl]
 refine Ev.congr (fun k => by rw [codesearchref02_name.f, toList_bl]) ?_
 by_cases h3 : (p.size : Int) < 1
 ·exact Ev.ite_pos h3 (hf (by rw [okname, decide_eq_false (by rw [bl_len]; omega), Bool.false_and]))
 refine Ev.ite_neg h3 ?_
 by_cases h4 : (p.size : Int) > 24
 ·exact Ev.ite_pos h4 (hf (by rw [okname, decide_eq_false (show ¬ (bl p).length ≤ 24 by rw [bl_len]; omega), Bool.false_and, Bool.and_false]))
 refine Ev.ite_neg h4 ?_
 by_cases h1 : bl p = [46]
 ·exact Ev.ite_pos h1 (hf (by rw [h1]; decide))
 refine Ev.ite_neg h1 ?_
 by_cases h2 : bl p = [46, 46]
 ·rw [beq_iff_eq.2 h2]
  exact hf (by rw [h2]; decide)
 rw [beq_eq_false_iff_ne.2 h2]
 have e : okname (bl p) = (bl p).all okc := by
  rw [okname, decide_eq_true (show 1 ≤ (bl p).length by rw [bl_len]; omega), decide_eq_true (show (bl p).length ≤ 24 by rw [bl_len]; omega), decide_eq_true h1, decide_eq_true h2]; simp
 rw [e]
 refine Ev.step (fun k => by rw [codesearchref02_name.j0, if_neg (by decide)]) ?_
 exact rname_l0 p hp p.size 0 (by omega)
theorem rValid_l0 (s : ByteArray) (hs : s.size ≤ 100000) : ∀ d (b a : Nat), b + d = s.size → a ≤ b → (47 : UInt8) ∉ ((bl s).drop a).take (b - a) →
  Ev (fun k => codesearchref02_ValidPath.l0 k s (a : Int) (b : Int)) ((split47 ((bl s).drop a)).all okname) := by
 intro d
 induction d with
 | zero =>
  intro b a hb hab hno
  obtain rfl : b = s.size := by omega
  have hd : ((bl s).drop a).take (s.size - a) = (bl s).drop a := List.take_of_length_le (by rw [List.length_drop, bl_len]; omega)
  rw [hd] at hno
  have he : bl (s.extract a s.size) = (bl s).drop a := by rw [bl_ext, hd]
  refine Ev.step (fun k => by rw [codesearchref02_ValidPath.l0, if_pos (Int.le_refl _), if_pos rfl]) (Ev.step (fun k => by rw [codesearchref02_ValidPath.j1, if_pos rfl, if_pos (by omega), if_pos (by omega), if_pos (by omega), Int.toNat_natCast, Int.toNat_natCast]) ?_)
  have hn := rname_is (s.extract a s.size) (by rw [ByteArray.size_extract]; omega)
  rw [he] at hn
  rw [split_none hno, List.all_cons, List.all_nil, Bool.and_true]
  refine Ev.bind hn ?_
  by_cases h : okname ((bl s).drop a) = true
  ·rw [h]
   refine Ev.ite_pos rfl (Ev.step (f := fun _ => some true) (fun k => ?_) (Ev.now _))
   rw [codesearchref02_ValidPath.l0, w64 (by omega) (by omega), if_neg (by omega)]
  ·rw [Bool.eq_false_iff.2 h]
   exact Ev.ite_neg (by simp) (Ev.now _)
 | succ d ih =>
  intro b a hb hab hno
  have hlt : b < (bl s).length := by rw [bl_len]; omega
  have hw : wrap64 ((b : Int) + 1) = ((b + 1 : Nat) : Int) := by rw [w64 (by omega) (by omega)]; rfl
  refine Ev.step (fun k => by rw [codesearchref02_ValidPath.l0, if_pos (by omega), if_neg (by omega), if_pos (by omega), if_pos (by omega), bt_bl s b hlt]) ?_
  have hsp : (bl s).drop a = ((bl s).drop a).take (b - a) ++ (bl s)[b] :: (bl s).drop (b + 1) := by
   have h1 := List.take_append_drop (b - a) ((bl s).drop a)
   rw [List.drop_drop, show a + (b - a) = b by omega, drop_cons _ b hlt] at h1
   exact h1.symm
  by_cases h : (bl s)[b] = 47
  ·rw [show (((bl s)[b].toNat : Int) == 47) = true from beq_iff_eq.2 ((u8_eq _ 47 (by omega)).2 h)]
   have he : bl (s.extract a b) = ((bl s).drop a).take (b - a) := bl_ext s a b
   have hn := rname_is (s.extract a b) (by rw [ByteArray.size_extract]; omega)
   rw [he] at hn
   rw [h] at hsp
   refine Ev.step (fun k => by rw [codesearchref02_ValidPath.j1, if_pos rfl, if_pos (by omega), if_pos (by omega), if_pos (by omega), Int.toNat_natCast, Int.toNat_natCast, hw]) (Ev.bind hn ?_)
   rw [hsp, split_at _ hno, List.all_cons]
   rw [← hsp]
   by_cases h2 : okname (((bl s).drop a).take (b - a)) = true
   ·rw [h2, Bool.true_and]
    refine Ev.ite_pos rfl ?_
    exact ih (b + 1) (b + 1) (by omega) (Nat.le_refl _) (by rw [Nat.sub_self, List.take_zero]; simp)
   ·rw [Bool.eq_false_iff.2 h2, Bool.false_and]
    exact Ev.ite_neg (by simp) (Ev.now _)
  ·rw [show (((bl s)[b].toNat : Int) == 47) = false from beq_eq_false_iff_ne.2 (fun e => h ((u8_eq _ 47 (by omega)).1 e))]
   refine Ev.step (fun k => by rw [codesearchref02_ValidPath.j1, if_neg (by decide), hw]) ?_
   refine ih (b + 1) a (by omega) (by omega) ?_
   have h3 : ((bl s).drop a).take (b + 1 - a) = ((bl s).drop a).take (b - a) ++ [(bl s)[b]] := by
    rw [show b + 1 - a = (b - a) + 1 by omega, List.take_succ_eq_append_getElem (by rw [List.length_drop]; omega)]
    congr 2
    rw [List.getElem_drop]
    congr 1
    omega
   rw [h3, List.mem_append, not_or]
   exact ⟨hno, by rw [List.mem_singleton]; exact fun e => h e.symm⟩
theorem rValidPath_is (s : ByteArray) : Ev (fun k => codesearchref02_ValidPath.f k s) (validP s) := by
 by_cases h : (s.size : Int) > 60
 ·refine Ev.congr (fun k => ?_) (Ev.now _)
  rw [codesearchref02_ValidPath.f, if_pos h, validP, decide_eq_false (by omega), Bool.false_and]
 ·have hs : s.size ≤ 60 := by omega
  refine Ev.congr (fun k => by rw [codesearchref02_ValidPath.f, if_neg h]) ?_
  rw [validP, decide_eq_true hs, Bool.true_and]
  have := rValid_l0 s (by omega) s.size 0 0 (by omega) (Nat.le_refl _) (by rw [Nat.sub_self, List.take_zero]; simp)
  rw [List.drop_zero] at this
  exact this
/-! ### Under -/
/-- The path lies below the directory. -/
def underP (p d : ByteArray) : Bool := decide (bl d = []) || decide (bl p = bl d ++ 47 :: (bl p).drop ((bl d).length + 1))

/-! Chapter 33: Right, of the document. -/
theorem idx_mem (l : List UInt8) : decide (0 ≤ Lib.indexByte l 47) = decide ((47 : UInt8) ∈ l) := by
 refine decide_eq_decide.2 ⟨fun h => ?_, fun h => ?_⟩
 ·obtain ⟨o, ho⟩ : ∃ o : Nat, Lib.indexByte l 47 = (o : Int) := ⟨(Lib.indexByte l 47).toNat, by omega⟩
  exact List.mem_of_getElem? (Lib.indexByte_some ho).1
 ·obtain ⟨o, ho, _⟩ := idx_of (List.count_pos_iff.2 h)
  omega
theorem rname33_is (s : ByteArray) (hs : s.size ≤ 9223372036854775000) : Ev (fun k => codesearchref33_name.f k s) (!decide (0 ≤ Lib.indexByte (bl s) 47) && validP s) := by
 rw [idx_mem]
 have key : ∀ d (i : Nat), i + d = (bl s).length → Ev (fun k => codesearchref33_name.l0 k s (i : Int)) (!decide ((47 : UInt8) ∈ (bl s).drop i) && validP s) := by
  intro d
  induction d with
  | zero =>
   intro i hi
   rw [bl_len] at hi
   rw [List.drop_of_length_le (by rw [bl_len]; omega)]
   refine Ev.step (fun k => by rw [codesearchref33_name.l0, if_neg (show ¬ (i : Int) < (s.size : Int) by omega)]) (Ev.bind (rValidPath_is s) ?_)
   exact Ev.congr (fun k => by simp) (Ev.now _)
  | succ d ih =>
   intro i hi
   have hlt : i < (bl s).length := by omega
   have hlt2 : i < s.size := by rw [bl_len] at hlt; exact hlt
   rw [drop_cons (bl s) i hlt]
   refine Ev.step (fun k => by rw [codesearchref33_name.l0, if_pos (show (i : Int) < (s.size : Int) by omega), if_pos (show (0 : Int) ≤ (i : Int) by omega), bt_bl s i hlt, w64 (x := (i : Int) + 1) (by omega) (by omega)]) ?_
   by_cases c : (bl s)[i] = 47
   ·rw [decide_eq_true (show (47 : UInt8) ∈ (bl s)[i] :: (bl s).drop (i + 1) by rw [c]; exact List.mem_cons_self)]
    exact Ev.ite_pos ((u8_eq _ 47 (by omega)).2 c) (Ev.now _)
   ·rw [show decide ((47 : UInt8) ∈ (bl s)[i] :: (bl s).drop (i + 1)) = decide ((47 : UInt8) ∈ (bl s).drop (i + 1)) from decide_eq_decide.2 (by rw [List.mem_cons]; exact ⟨fun h => h.resolve_left (fun e => c e.symm), .inr⟩)]
    exact Ev.ite_neg (fun e => c ((u8_eq _ 47 (by omega)).1 e)) (ih (i + 1) (by omega))
 exact key (bl s).length 0 (by omega)
/-- The branches of an entry, as the document goes through them. -/
theorem rloop_is (e : SE) (hd : e.f3.length ≤ 1000000) (hl : e.f5.length ≤ 1000000) (hs : ∀ s ∈ e.f5, s.size ≤ 9223372036854775000) : Ev (fun k => codesearchref33_fields.l0 k 0 e.f0 e.f1 e.f2 e.f3 e.f4 e.f5) (if (e.f3.length : Int) < 2 then branchesM e.f5 else false) := by
 have key : ∀ d (i : Nat), i + d = e.f5.length → Ev (fun k => codesearchref33_fields.l0 k (i : Int) e.f0 e.f1 e.f2 e.f3 e.f4 e.f5) (runB (prevB e.f5 i) (e.f5.drop i) && (decide ((e.f5.length : Int) > 0) && decide ((e.f3.length : Int) < 2))) := by
  intro d
  induction d with
  | zero =>
   intro i hi
   rw [List.drop_of_length_le (by omega), runB, Bool.true_and]
   refine Ev.step (f := fun k => if (e.f5.length : Int) > 0 then some (decide ((e.f3.length : Int) ≤ 1)) else some false) (fun k => by rw [codesearchref33_fields.l0, if_neg (show ¬ (i : Int) < (e.f5.length : Int) by omega)]) ?_
   by_cases c : (e.f5.length : Int) > 0
   ·rw [decide_eq_true c, Bool.true_and, show decide ((e.f3.length : Int) < 2) = decide ((e.f3.length : Int) ≤ 1) from decide_eq_decide.2 (by omega)]
    exact Ev.ite_pos c (Ev.now _)
   ·rw [decide_eq_false c, Bool.false_and]
    exact Ev.ite_neg c (Ev.now _)
  | succ d ih =>
   intro i hi
   have hlt : i < e.f5.length := by omega
   rw [drop_cons e.f5 i hlt, runB]
   refine Ev.step (fun k => by rw [codesearchref33_fields.l0, if_pos (show (i : Int) < (e.f5.length : Int) by omega), if_pos (show (0 : Int) ≤ (i : Int) by omega), rdOf_nat _ e.f5 i hlt, w1 i (by omega)]) ?_
   have next := ih (i + 1) (by omega)
   rw [show prevB e.f5 (i + 1) = some e.f5[i] from List.getElem?_eq_getElem hlt] at next
   refine Ev.bind (rname33_is e.f5[i] (hs _ (List.getElem_mem _))) ?_
   by_cases c2 : (!decide (0 ≤ Lib.indexByte (bl e.f5[i]) 47) && validP e.f5[i]) = true
   ·refine Ev.ite_pos c2 ?_
    rw [Bool.and_eq_true] at c2
    cases i with
    | zero =>
     rw [show okB (prevB e.f5 0) e.f5[0] = true by unfold okB; rw [c2.1, c2.2]; rfl, Bool.true_and]
     exact Ev.ite_neg (by simp) next
    | succ j =>
     have hj : j < e.f5.length := by omega
     refine Ev.ite_pos (show ((j + 1 : Nat) : Int) > 0 by omega) ?_
     refine Ev.congr (fun k => by rw [show wrap64 (((j + 1 : Nat) : Int) - 1) = ((j : Nat) : Int) from (w64 (by omega) (by omega)).trans (by omega), if_pos (show (0 : Int) ≤ (j : Int) by omega), if_pos (show (j : Int) < (e.f5.length : Int) by omega), rdOf_nat _ e.f5 j hj]) ?_
     rw [show okB (prevB e.f5 (j + 1)) e.f5[j + 1] = Op.bytesLess e.f5[j].toList e.f5[j + 1].toList by unfold okB; rw [c2.1, c2.2, show prevB e.f5 (j + 1) = some e.f5[j] from List.getElem?_eq_getElem hj]; rfl]
     by_cases c3 : Op.bytesLess e.f5[j].toList e.f5[j + 1].toList = true
     ·rw [c3, Bool.true_and]
      exact Ev.ite_pos rfl next
     ·rw [show Op.bytesLess e.f5[j].toList e.f5[j + 1].toList = false by simpa using c3, Bool.false_and, Bool.false_and]
      exact Ev.ite_neg (by decide) (Ev.now _)
   ·rw [show okB (prevB e.f5 i) e.f5[i] = false by
     unfold okB
     rw [← Bool.and_assoc, show (!decide (0 ≤ Lib.indexByte (bl e.f5[i]) 47) && validP e.f5[i]) = false by simpa using c2, Bool.false_and], Bool.false_and, Bool.false_and]
    exact Ev.ite_neg c2 (Ev.now _)
 have := key e.f5.length 0 (by omega)
 rw [List.drop_zero] at this
 rw [show (if (e.f3.length : Int) < 2 then branchesM e.f5 else false) = (runB (prevB e.f5 0) e.f5 && (decide ((e.f5.length : Int) > 0) && decide ((e.f3.length : Int) < 2))) by
  rw [branchesM]
  by_cases c : (e.f3.length : Int) < 2
  ·rw [if_pos c, decide_eq_true c, Bool.and_true]; rfl
  ·rw [if_neg c, decide_eq_false c, Bool.and_false, Bool.and_false]]
 exact this
theorem rj4_is (e : SE) (b : Bool) (r : Bool) (hl : e.f1 = 4 → b = false → Ev (fun k => codesearchref33_fields.l0 k 0 e.f0 e.f1 e.f2 e.f3 e.f4 e.f5) r) :
  Ev (fun k => codesearchref33_fields.j4 k b e.f0 e.f1 e.f2 e.f3 e.f4 e.f5) (if b = true then false else if e.f1 = 4 then r else true) := by
 cases b with
 | true => exact Ev.step (f := fun k => some false) (fun k => by rw [codesearchref33_fields.j4, if_pos rfl]) (Ev.now _)
 | false =>
  refine Ev.step (fun k => by rw [codesearchref33_fields.j4, if_neg (by decide)]) ?_
  rw [if_neg (by decide)]
  by_cases c : e.f1 = 4
  ·rw [if_pos c]; exact Ev.ite_pos c (hl c rfl)
  ·rw [if_neg c]; exact Ev.ite_neg c (Ev.now _)
theorem rj3_is (e : SE) (sg b : Bool) (r : Bool) (h3 : e.f3.length ≤ 1000000) (h4 : e.f4.length ≤ 1000000) (hl : e.f1 = 4 → Ev (fun k => codesearchref33_fields.l0 k 0 e.f0 e.f1 e.f2 e.f3 e.f4 e.f5) r) :
  Ev (fun k => codesearchref33_fields.j3 k sg b e.f0 e.f1 e.f2 e.f3 e.f4 e.f5) (if b = true then false else if (sg && (decide (e.f2 < 1) || decide (e.f2 > 9999))) = true then false else if okV (-1) e.f3 = true then (if okV (-1) e.f4 = true then (if e.f1 = 4 then r else true) else false) else false) := by
 cases b with
 | true => exact Ev.step (f := fun k => some false) (fun k => by rw [codesearchref33_fields.j3, if_pos rfl]) (Ev.now _)
 | false =>
  rw [if_neg (by decide)]
  have v3 := rValid_is e.f3 (by omega)
  have v4 := rValid_is e.f4 (by omega)
  have last : Ev (fun k => (codesearchref05_Valid.f k e.f3).bind fun t456 => (if t456 = true then ((codesearchref05_Valid.f k e.f4).bind fun t457 => (codesearchref33_fields.j4 k (!t457) e.f0 e.f1 e.f2 e.f3 e.f4 e.f5)) else (codesearchref33_fields.j4 k true e.f0 e.f1 e.f2 e.f3 e.f4 e.f5))) (if okV (-1) e.f3 = true then (if okV (-1) e.f4 = true then (if e.f1 = 4 then r else true) else false) else false) := by
   refine Ev.bind v3 ?_
   by_cases c5 : okV (-1) e.f3 = true
   ·rw [if_pos c5]
    refine Ev.ite_pos c5 (Ev.bind v4 ?_)
    have := rj4_is e (!okV (-1) e.f4) r (fun h _ => hl h)
    by_cases c6 : okV (-1) e.f4 = true
    ·rw [c6] at this ⊢; exact this
    ·rw [show okV (-1) e.f4 = false by simpa using c6] at this ⊢; exact this
   ·rw [if_neg c5]
    exact Ev.ite_neg c5 (rj4_is e true r (fun h _ => hl h))
  refine Ev.step (fun k => by rw [codesearchref33_fields.j3, if_neg (by decide)]) ?_
  cases sg with
  | true =>
   refine Ev.ite_pos rfl ?_
   by_cases c1 : e.f2 < 1
   ·rw [if_pos (by rw [decide_eq_true c1]; rfl)]
    exact Ev.ite_pos c1 (rj4_is e true r (fun h _ => hl h))
   refine Ev.ite_neg c1 ?_
   by_cases c2 : e.f2 > 9999
   ·rw [if_pos (by rw [decide_eq_true c2, Bool.or_true]; rfl)]
    exact Ev.ite_pos c2 (rj4_is e true r (fun h _ => hl h))
   rw [if_neg (by rw [decide_eq_false c1, decide_eq_false c2]; decide)]
   exact Ev.ite_neg c2 last
  | false =>
   rw [if_neg (by rw [Bool.false_and]; decide)]
   exact Ev.ite_neg (by decide) last
/-- The fields that an entry of its kind may not have. -/
def badE (e : SE) : Bool := (!segE e && (e.f2 != 0)) || ((!docE e && decide ((e.f3.length : Int) > 0)) || ((!decide (e.f1 = 3) && decide ((e.f4.length : Int) > 0)) || (!decide (e.f1 = 4) && decide ((e.f5.length : Int) > 0))))
theorem rj2_is (e : SE) (x : Bool) (h : Ev (fun k => codesearchref33_fields.j3 k (segE e) (badE e) e.f0 e.f1 e.f2 e.f3 e.f4 e.f5) x) : Ev (fun k => codesearchref33_fields.j2 k (segE e) (docE e) e.f0 e.f1 e.f2 e.f3 e.f4 e.f5) x := by
 refine Ev.step (fun k => ?_) h
 rw [codesearchref33_fields.j2]
 have hb : (e.f2 != 0) = !decide (e.f2 = 0) := by by_cases h : e.f2 = 0 <;> simp [h]
 unfold badE
 generalize segE e = sg
 generalize docE e = dc
 by_cases c2 : e.f2 = 0 <;> by_cases c3 : 0 < e.f3.length <;> by_cases c4 : 0 < e.f4.length <;> by_cases k3 : e.f1 = 3 <;> by_cases k4 : e.f1 = 4 <;> cases sg <;> cases dc <;> simp [c2, c3, c4, k3, k4, hb]
theorem rfields_is (e : SE) (h3 : e.f3.length ≤ 1000000) (h4 : e.f4.length ≤ 1000000) (h5 : e.f5.length ≤ 1000000) (hs : ∀ s ∈ e.f5, s.size ≤ 9223372036854775000) : Ev (fun k => codesearchref33_fields.f k e.f0 e.f1 e.f2 e.f3 e.f4 e.f5) (fieldsM branchesM e) := by
 refine Ev.congr (f := fun k => codesearchref33_fields.j0 k (decide (e.f1 < 1) || decide (e.f1 > 4)) e.f0 e.f1 e.f2 e.f3 e.f4 e.f5) (fun k => by rw [codesearchref33_fields.f]; by_cases h : e.f1 < 1 <;> simp [h]) ?_
 unfold fieldsM
 by_cases c1 : (decide (e.f1 < 1) || decide (e.f1 > 4)) = true
 ·rw [if_pos c1]
  exact Ev.step (f := fun k => some false) (fun k => by rw [codesearchref33_fields.j0, if_pos c1]) (Ev.now _)
 rw [if_neg c1]
 refine Ev.step (f := fun k => codesearchref33_fields.j1 k (segE e) e.f0 e.f1 e.f2 e.f3 e.f4 e.f5) (fun k => by rw [codesearchref33_fields.j0, if_neg c1, segE]; by_cases h : e.f1 = 1 <;> simp [h]) ?_
 refine Ev.step (f := fun k => codesearchref33_fields.j2 k (segE e) (docE e) e.f0 e.f1 e.f2 e.f3 e.f4 e.f5) (fun k => by rw [codesearchref33_fields.j1, docE]; by_cases h : e.f1 = 2 <;> simp [h]) ?_
 refine rj2_is e _ ?_
 have := rj3_is e (segE e) (badE e) _ h3 h4 (fun _ => rloop_is e h3 h5 hs)
 rw [show (if ((!segE e && (e.f2 != 0)) || (!docE e && decide ((e.f3.length : Int) > 0))) = true then false
  else if ((!decide (e.f1 = 3) && decide ((e.f4.length : Int) > 0)) || (!decide (e.f1 = 4) && decide ((e.f5.length : Int) > 0))) = true then false
  else if (segE e && (decide (e.f2 < 1) || decide (e.f2 > 9999))) = true then false
  else if okV (-1) e.f3 = true then (if okV (-1) e.f4 = true then (if e.f1 = 4 then (if (e.f3.length : Int) < 2 then branchesM e.f5 else false) else true) else false) else false) = (if badE e = true then false else if (segE e && (decide (e.f2 < 1) || decide (e.f2 > 9999))) = true then false else if okV (-1) e.f3 = true then (if okV (-1) e.f4 = true then (if e.f1 = 4 then (if (e.f3.length : Int) < 2 then branchesM e.f5 else false) else true) else false) else false) by
   unfold badE
   cases (!segE e && (e.f2 != 0)) <;> cases (!docE e && decide ((e.f3.length : Int) > 0)) <;> simp]
 exact this
/-- The greatest number so far. -/
theorem top_le (n : Int) (l : List SE) : n ≤ (runM l).2.2 ↔ n ≤ 0 ∨ ∃ x ∈ l, n ≤ x.f2 := by
 have after_top : ∀ (s : ST) (e : SE), (afterM s e).2.2 = mx s.2.2 e.f2 := by
  intro s e
  unfold afterM
  split
  ·rfl
  ·split
   ·rfl
   ·split <;> rfl
 have : ∀ (l : List SE) (s : ST), n ≤ (l.foldl afterM s).2.2 ↔ n ≤ s.2.2 ∨ ∃ x ∈ l, n ≤ x.f2 := by
  intro l
  induction l with
  | nil => intro s; simp
  | cons e l ih =>
   intro s
   rw [List.foldl_cons, ih, after_top, mx_of]
   simp only [List.mem_cons, exists_eq_or_imp]
   rw [← or_assoc]
   refine or_congr ?_ Iff.rfl
   omega
 exact this l ([], [], 0)
theorem rtwice (l : List SE) (i : Nat) (hi : i < l.length) (hl : l.length ≤ 1000) (e : SE) (sg : Bool) (R : Int)
  (hR : Ev (fun k => (codesearchref33_Live.f k (l.take i)).bind fun t => codesearchref33_Right.l2 k l (i : Int) t 0 e.f0 e.f1 e.f2 e.f3 e.f4 e.f5) R) :
  ∀ d (j : Nat), j + d = i → Ev (fun k => codesearchref33_Right.l1 k l (i : Int) sg (j : Int) e.f0 e.f1 e.f2 e.f3 e.f4 e.f5) (if (sg && ((l.take i).drop j).any fun x => decide (x.f2 ≥ e.f2)) = true then 7 else R) := by
 have rest : ∀ j : Int, Ev (fun k => codesearchref33_Right.j3 k l (i : Int) sg j false e.f0 e.f1 e.f2 e.f3 e.f4 e.f5) R := by
  intro j
  refine Ev.step (fun k => by rw [codesearchref33_Right.j3, if_neg (by decide), if_pos (show (0 : Int) ≤ (i : Int) by omega), if_pos (show (i : Int) ≤ (l.length : Int) by omega), Int.toNat_natCast]) ?_
  exact hR
 intro d
 induction d with
 | zero =>
  intro j hj
  rw [List.drop_of_length_le (by rw [List.length_take]; omega), List.any_nil, Bool.and_false, if_neg (by decide)]
  refine Ev.step (f := fun k => codesearchref33_Right.j3 k l (i : Int) sg (j : Int) false e.f0 e.f1 e.f2 e.f3 e.f4 e.f5) (fun k => ?_) (rest _)
  rw [codesearchref33_Right.l1, decide_eq_false (show ¬ (j : Int) < (i : Int) by omega)]
  split <;> rfl
 | succ d ih =>
  intro j hj
  have hlt : j < (l.take i).length := by rw [List.length_take]; omega
  have hlt2 : j < l.length := by omega
  rw [drop_cons _ j hlt, List.any_cons, List.getElem_take]
  cases sg with
  | false =>
   rw [Bool.false_and, if_neg (by decide)]
   exact Ev.step (f := fun k => codesearchref33_Right.j3 k l (i : Int) false (j : Int) false e.f0 e.f1 e.f2 e.f3 e.f4 e.f5) (fun k => by rw [codesearchref33_Right.l1, if_neg (by decide)]) (rest _)
  | true =>
   have next := ih (j + 1) (by omega)
   rw [Bool.true_and] at next ⊢
   refine Ev.step (f := fun k => codesearchref33_Right.j3 k l (i : Int) true (j : Int) true e.f0 e.f1 e.f2 e.f3 e.f4 e.f5) (fun k => by rw [codesearchref33_Right.l1, if_pos rfl, decide_eq_true (show (j : Int) < (i : Int) by omega)]) ?_
   refine Ev.step (fun k => by rw [codesearchref33_Right.j3, if_pos rfl, if_pos (show (0 : Int) ≤ (j : Int) by omega), if_pos (show (j : Int) < (l.length : Int) by omega), rdE_nat l j hlt2, w1 j (by omega)]) ?_
   by_cases c : l[j].f2 ≥ e.f2
   ·rw [decide_eq_true c, Bool.true_or, if_pos rfl]
    exact Ev.ite_pos c (Ev.now _)
   ·rw [decide_eq_false c, Bool.false_or]
    exact Ev.ite_neg c next
theorem rold (l : List SE) (i : Nat) (hl : l.length ≤ 1000) (hi : i < l.length) (e : SE) (h4 : e.f4.length ≤ 1000000) (live : List Int) (hlv : live.length ≤ 1000000) (R : Int) (next : Ev (fun k => codesearchref33_Right.l0 k l ((i + 1 : Nat) : Int)) R) :
  ∀ d (j : Nat), j + d = e.f4.length → Ev (fun k => codesearchref33_Right.l2 k l (i : Int) live (j : Int) e.f0 e.f1 e.f2 e.f3 e.f4 e.f5) (if ((e.f4.drop j).all fun n => decide (n ∈ live)) = true then (if (docE e && ((e.f3.length : Int) == 0)) = true then 1 else if (decide (e.f1 = 3) && ((e.f4.length : Int) == 0)) = true then 1 else R) else 8) := by
 intro d
 induction d with
 | zero =>
  intro j hj
  rw [List.drop_of_length_le (by omega), List.all_nil, if_pos rfl]
  refine Ev.step (fun k => by rw [codesearchref33_Right.l2, if_neg (show ¬ (j : Int) < (e.f4.length : Int) by omega), w1 i (by omega)]) ?_
  unfold docE
  by_cases k3 : e.f1 = 3
  ·refine Ev.ite_pos k3 ?_
   rw [k3]
   by_cases c4 : (e.f4.length : Int) = 0
   ·rw [show ((decide ((3 : Int) = 3)) && ((e.f4.length : Int) == 0)) = true by rw [c4]; rfl]
    exact Ev.congr (fun k => if_pos c4) (Ev.congr (fun k => by simp) (Ev.now _))
   ·refine Ev.ite_neg c4 (Ev.ite_neg (by decide) (Ev.ite_neg (by decide) ?_))
    rw [show ((e.f4.length : Int) == 0) = false from beq_eq_false_iff_ne.mpr c4]
    exact next
  ·refine Ev.ite_neg k3 ?_
   rw [decide_eq_false k3, Bool.false_and, if_neg (show ¬ false = true by decide)]
   by_cases k2 : e.f1 = 2
   ·refine Ev.ite_pos k2 ?_
    rw [k2]
    by_cases c3 : (e.f3.length : Int) = 0
    ·rw [c3]
     exact Ev.ite_pos rfl (Ev.now _)
    ·rw [show ((e.f3.length : Int) == 0) = false from beq_eq_false_iff_ne.mpr c3, Bool.and_false, if_neg (by decide)]
     exact Ev.ite_neg c3 next
   ·refine Ev.ite_neg k2 ?_
    by_cases k4 : e.f1 = 4
    ·refine Ev.ite_pos k4 ?_
     rw [k4]
     by_cases c3 : (e.f3.length : Int) = 0
     ·rw [c3]
      exact Ev.ite_pos rfl (Ev.now _)
     ·rw [show ((e.f3.length : Int) == 0) = false from beq_eq_false_iff_ne.mpr c3, Bool.and_false, if_neg (by decide)]
      exact Ev.ite_neg c3 next
    ·refine Ev.ite_neg k4 ?_
     rw [decide_eq_false k2, show (e.f1 == 4) = false from beq_eq_false_iff_ne.mpr k4, Bool.or_false, Bool.false_and, if_neg (by decide)]
     exact next
 | succ d ih =>
  intro j hj
  have hlt : j < e.f4.length := by omega
  rw [drop_cons e.f4 j hlt, List.all_cons]
  refine Ev.step (fun k => by rw [codesearchref33_Right.l2, if_pos (show (j : Int) < (e.f4.length : Int) by omega), if_pos (show (0 : Int) ≤ (j : Int) by omega), rd_nat e.f4 j hlt, w1 j (by omega)]) (Ev.bind (has_is live _ (by omega)) ?_)
  by_cases hm : e.f4[j] ∈ live
  ·rw [decide_eq_true hm, Bool.true_and]
   exact Ev.ite_pos rfl (ih (j + 1) (by omega))
  ·rw [decide_eq_false hm, Bool.false_and, if_neg (by decide)]
   exact Ev.ite_neg (by decide) (Ev.now _)
theorem fields_pos {br : List ByteArray → Bool} {e : SE} (h : fieldsM br e = true) (hs : segE e = true) : 1 ≤ e.f2 := by
 unfold fieldsM at h
 split at h
 ·exact absurd h (by decide)
 ·split at h
  ·exact absurd h (by decide)
  ·split at h
   ·exact absurd h (by decide)
   ·split at h
    ·exact absurd h (by decide)
    ·rename_i c
     rw [hs, Bool.true_and, Bool.or_eq_true, not_or] at c
     have := c.1
     rw [decide_eq_true_iff] at this
     omega
theorem rRight_is (l : List SE) (hl : l.length ≤ 1000) (hf : ∀ e ∈ l, fit 1000 e) (h5 : ∀ e ∈ l, e.f5.length ≤ 1000000 ∧ ∀ s ∈ e.f5, s.size ≤ 9223372036854775000) : Ev (fun k => codesearchref33_Right.f k l) (rightM branchesM l) := by
 have key : ∀ d (i : Nat), i + d = l.length → Ev (fun k => codesearchref33_Right.l0 k l (i : Int)) (rightGo branchesM (runM (l.take i)) i (l.drop i)) := by
  intro d
  induction d with
  | zero =>
   intro i hi
   rw [List.drop_of_length_le (by omega), rightGo]
   refine Ev.step (f := fun _ => some 0) (fun k => ?_) (Ev.now _)
   rw [codesearchref33_Right.l0, if_neg (by omega)]
  | succ d ih =>
   intro i hi
   have hlt : i < l.length := by omega
   have hm := List.getElem_mem hlt
   have hg := hf l[i] hm
   have next := ih (i + 1) (by omega)
   rw [runM_snoc l i hlt] at next
   have hlen := runM_len (l.take i) 1000 (fun e he => hf e (List.mem_of_mem_take he))
   have hln : (l.take i).length ≤ 1000 := by rw [List.length_take]; omega
   rw [drop_cons l i hlt, rightGo]
   refine Ev.step (fun k => by rw [codesearchref33_Right.l0, if_pos (show (i : Int) < (l.length : Int) by omega), if_pos (show (0 : Int) ≤ (i : Int) by omega), rdE_nat l i hlt, w1 i (by omega)]) ?_
   unfold checkM
   by_cases c0 : l[i].f0 = ((i + 1 : Nat) : Int)
   ·rw [if_pos c0]
    refine Ev.ite_pos c0 (Ev.bind (rfields_is l[i] (by have := hg.1; omega) (by have := hg.2; omega) (h5 _ hm).1 (h5 _ hm).2) ?_)
    by_cases c1 : fieldsM branchesM l[i] = true
    ·rw [if_pos c1]
     refine Ev.ite_pos c1 (Ev.congr (f := fun k => codesearchref33_Right.j1 k l (i : Int) (segE l[i]) l[i].f0 l[i].f1 l[i].f2 l[i].f3 l[i].f4 l[i].f5) (fun k => by rw [segE]; by_cases h : l[i].f1 = 1 <;> simp [h]) ?_)
     refine Ev.step (f := fun k => codesearchref33_Right.l1 k l (i : Int) (segE l[i]) 0 l[i].f0 l[i].f1 l[i].f2 l[i].f3 l[i].f4 l[i].f5) (fun k => by rw [codesearchref33_Right.j1]) ?_
     have h2 := rold l i hl hlt l[i] (by have := hg.2; omega) (runM (l.take i)).1 (by omega) _ next l[i].f4.length 0 (by omega)
     have h1 := rtwice l i hlt hl l[i] (segE l[i]) _ (Ev.bind (rLive_is (l.take i) hln (fun e he => hf e (List.mem_of_mem_take he))) h2) i 0 (by omega)
     rw [List.drop_zero, List.drop_zero] at h1
     have heq : (segE l[i] && (l.take i).any fun x => decide (x.f2 ≥ l[i].f2)) = (segE l[i] && decide (l[i].f2 ≤ (runM (l.take i)).2.2)) := by
      cases hs : segE l[i] with
      | false => rfl
      | true =>
       have hp := fields_pos c1 hs
       rw [Bool.true_and, Bool.true_and, Bool.eq_iff_iff, List.any_eq_true, decide_eq_true_iff, top_le]
       constructor
       ·rintro ⟨x, hx, h⟩
        exact .inr ⟨x, hx, of_decide_eq_true h⟩
       ·rintro (h | ⟨x, hx, h⟩)
        ·omega
        ·exact ⟨x, hx, decide_eq_true h⟩
     rw [heq] at h1
     by_cases a1 : (segE l[i] && decide (l[i].f2 ≤ (runM (l.take i)).2.2)) = true
     ·rw [if_pos a1] at h1 ⊢
      exact h1
     rw [if_neg a1] at h1 ⊢
     by_cases a2 : (l[i].f4.all fun n => decide (n ∈ (runM (l.take i)).1)) = true
     ·rw [if_pos a2] at h1 ⊢
      by_cases a3 : (docE l[i] && ((l[i].f3.length : Int) == 0)) = true
      ·rw [if_pos a3] at h1 ⊢
       exact h1
      rw [if_neg a3] at h1 ⊢
      by_cases a4 : (decide (l[i].f1 = 3) && ((l[i].f4.length : Int) == 0)) = true
      ·rw [if_pos a4] at h1 ⊢
       exact h1
      rw [if_neg a4] at h1 ⊢
      exact h1
     ·rw [if_neg a2] at h1 ⊢
      exact h1
    ·rw [if_neg c1]
     exact Ev.ite_neg c1 (Ev.now _)
   ·rw [if_neg c0]
    exact Ev.ite_neg c0 (Ev.now _)
 have := key l.length 0 (by omega)
 rw [List.drop_zero, List.take_zero] at this
 exact this

/-! The examples of chapter 33 hold. -/
instance decSE : DecidableEq SE := fun a b => decidable_of_decidable_of_iff (p := a.f0 = b.f0 ∧ a.f1 = b.f1 ∧ a.f2 = b.f2 ∧ a.f3 = b.f3 ∧ a.f4 = b.f4 ∧ a.f5 = b.f5) (by cases a; cases b; simp)
instance decFit (n : Nat) (e : SE) : Decidable (fit n e) := inferInstanceAs (Decidable (_ ∧ _))
theorem orS_lit {a b c : List Int} (hc : c.Pairwise (· < ·)) (h : ∀ x, x ∈ c ↔ x ∈ a ∨ x ∈ b) : orS a b = c := srt_ext (orS_srt _ _) hc (fun x => by rw [mem_orS, h])
abbrev e1 : SE := ⟨1, 1, 1, [], [], []⟩
abbrev e2 : SE := ⟨2, 1, 2, [], [], []⟩
abbrev e3 : SE := ⟨3, 2, 0, [7, 9], [], []⟩
abbrev e4 : SE := ⟨4, 3, 3, [], [1, 2], []⟩
abbrev ex33 : List SE := [e1, e2, e3, e4]
theorem st1 : afterM ([], [], 0) e1 = ([1], [], 1) := by
 rw [afterM, if_pos rfl, orS_lit (c := [1]) (by decide) (fun x => by simp)]; rfl
theorem st2 : afterM ([1], [], 1) e2 = ([1, 2], [], 2) := by
 rw [afterM, if_pos rfl, orS_lit (c := [1, 2]) (by decide) (fun x => by simp)]; rfl
theorem st3 : afterM ([1, 2], [], 2) e3 = ([1, 2], [7, 9], 2) := by
 rw [afterM, if_neg (by decide), if_pos rfl, orS_lit (c := [7, 9]) (by decide) (fun x => by simp)]; rfl
theorem st4 : afterM ([1, 2], [7, 9], 2) e4 = ([3], [], 3) := by
 rw [afterM, if_neg (by decide), if_neg (by decide), if_pos rfl, orS_lit (c := [3]) (by decide) (fun x => by rw [mem_minusS]; simp; omega)]; rfl
theorem al_run3 : runM (ex33.take 3) = ([1, 2], [7, 9], 2) := by
 show afterM (afterM (afterM ([], [], 0) e1) e2) e3 = _
 rw [st1, st2, st3]
theorem al_run : runM ex33 = ([3], [], 3) := by
 show afterM (afterM (afterM (afterM ([], [], 0) e1) e2) e3) e4 = _
 rw [st1, st2, st3, st4]
def brT : List ByteArray → Bool := fun _ => true
theorem al_ck1 : checkM brT ([], [], 0) 0 e1 = 0 := by decide +kernel
theorem al_right0 : rightM brT ex33 = 0 := by
 rw [rightM, rightGo, if_pos al_ck1, st1, rightGo, if_pos (by decide +kernel), st2, rightGo, if_pos (by decide +kernel), st3, rightGo, if_pos (by decide +kernel), rightGo]
theorem al_right7 : rightM brT [e1, ⟨2, 1, 1, [], [], []⟩] = 7 := by
 rw [rightM, rightGo, if_pos al_ck1, st1, rightGo, if_neg (by decide +kernel)]; decide +kernel
theorem al_right8 : rightM brT [e1, ⟨2, 3, 2, [], [4], []⟩] = 8 := by
 rw [rightM, rightGo, if_pos al_ck1, st1, rightGo, if_neg (by decide +kernel)]; decide +kernel
theorem al_right1 : rightM brT [⟨1, 2, 0, [], [], []⟩] = 1 := by
 rw [rightM, rightGo, if_neg (by decide +kernel)]; decide +kernel
def wr33 : List Int := (manifest_Write.f 60 ex33).getD []
set_option maxRecDepth 100000 in
theorem al_write : Ev (fun k => manifest_Write.f k ex33) wr33 := Ev.of (fun k => manifest_Write.mono _ k) (k := 60) (by decide +kernel)
set_option maxRecDepth 100000 in
theorem al_rec : Ev (fun k => manifest_Recover.f k wr33) (ex33, (wr33.length : Int)) := Ev.of (fun k => manifest_Recover.mono _ k) (k := 60) (by decide +kernel)
set_option maxRecDepth 100000 in
theorem al_enc : Ev (fun k => manifest_Encode.f k 1 1 5 [] [] []) [1, 1, 5, 0, 0, 0] := Ev.of (fun k => manifest_Encode.mono _ _ _ _ _ _ k) (k := 30) (by decide +kernel)
set_option maxRecDepth 100000 in
theorem al_same : Ev (fun k => codesearchref33_SameAll.f k ex33 ex33) true := Ev.of (fun k => codesearchref33_SameAll.mono _ _ k) (k := 30) (by decide +kernel)
set_option maxRecDepth 100000 in
theorem al_ints (l : List Int) (h : codesearchref33_SameInts.f 30 l l = some true) : Ev (fun k => codesearchref33_SameInts.f k l l) true := Ev.of (fun k => codesearchref33_SameInts.mono _ _ k) h
theorem al_R (l : List SE) (r : Int) (hl : l.length ≤ 1000) (hf : ∀ e ∈ l, fit 1000 e) (hk : ∀ e ∈ l, e.f1 ≠ 4) (h : rightM brT l = r) : Ev (fun k => manifest_Right.f k l) r := h ▸ Right_is brT l hl hf (fun e he h4 => absurd h4 (hk e he))
set_option maxRecDepth 100000 in
theorem alive33 : Ev (fun k => codesearchlaw33_alive.f k) true := by
 have f3 : ∀ e ∈ ex33.take 3, fit 1000 e := by decide +kernel
 have f4 : ∀ e ∈ ex33, fit 1000 e := by decide +kernel
 have L3 := Live_is (ex33.take 3) (by decide) f3
 have D3 := Dead_is (ex33.take 3) (by decide) f3
 have L4 := Live_is ex33 (by decide) f4
 have D4 := Dead_is ex33 (by decide) f4
 rw [al_run3] at L3 D3
 rw [al_run] at L4 D4
 refine Ev.bind_eq (show codesearchlaw33_example.f = some ex33 from rfl) ?_
 refine Ev.bind (al_R ex33 0 (by decide) f4 (by decide) al_right0) (Ev.ite_pos rfl (Ev.ite_pos (by decide) (Ev.bind L3 ?_)))
 refine Ev.bind (al_ints [1, 2] (by decide +kernel)) (Ev.ite_pos rfl (Ev.bind D3 ?_))
 refine Ev.bind (al_ints [7, 9] (by decide +kernel)) (Ev.ite_pos rfl (Ev.bind L4 ?_))
 refine Ev.bind (al_ints [3] (by decide +kernel)) (Ev.ite_pos rfl (Ev.bind D4 ?_))
 refine Ev.ite_pos (by decide) ?_
 refine Ev.bind al_enc ?_
 refine Ev.ite_pos (by decide +kernel) ?_
 refine Ev.ite_pos (by decide) ?_
 refine Ev.bind (al_R [e1, ⟨2, 1, 1, [], [], []⟩] 7 (by decide) (by decide +kernel) (by decide) al_right7) ?_
 refine Ev.bind (al_R [e1, ⟨2, 3, 2, [], [4], []⟩] 8 (by decide) (by decide +kernel) (by decide) al_right8) ?_
 refine Ev.bind (al_R [⟨1, 2, 0, [], [], []⟩] 1 (by decide) (by decide +kernel) (by decide) al_right1) ?_
 refine Ev.bind al_write (Ev.bind al_rec (Ev.ite_pos rfl (Ev.ite_pos rfl (Ev.ite_pos rfl (Ev.bind al_same (Ev.ite_pos rfl (Ev.bind al_write (Ev.ite_pos rfl ?_))))))))
 exact Ev.congr (fun k => by rw [decide_eq_true (show (wr33.length : Int) > 0 by decide +kernel)]) (Ev.now _)
end Go.Proofs.YtmgliocboeifdaaGreatDoor.Q
