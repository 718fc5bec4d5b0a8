/- Chapter 5: the document's sets are the sorted lists without repetition; so are the program's. -/
import Derived.Test.YtknpmknkkofnjaaQGen
import Derived.Test.YtknpmknkkofnjaaPQSet05
import Derived.Test.YtknpmknkkofnjaaPx1
import Derived.Test.YtknpmknkkofnjaaPx2
import Derived.Test.YtknpmknkkofnjaaPx6
import Derived.Test.YtknpmknkkofnjaaPx7
namespace Go.Proofs.Ytknpmknkkofnjaa.Q
open Go.RowKit Go.Proofs.YtknpmknkkofnjaaW.PrintWords Go.Proofs.YtknpmknkkofnjaaW.PrintLast Go.Proofs.YtknpmknkkofnjaaW.PrintMore Go.Proofs.Ytknpmknkkofnjaa.P
set_option linter.unusedVariables false
set_option linter.unusedSimpArgs false
theorem Same_self (l : List Int) (hl : l.length ≤ 9223372036854775000) : Ev (fun k => codesearchref05_Same.f k l l) true := by
  have key : ∀ d (i : Nat), i + d = l.length → Ev (fun k => codesearchref05_Same.l0 k l l (i : Int)) true := by
    intro d
    induction d with
    | zero =>
      intro i hi
      refine Ev.step (f := fun _ => some true) (fun k => ?_) (Ev.now _)
      rw [codesearchref05_Same.l0, if_neg (show ¬ (i : Int) < (l.length : Int) by omega)]
    | succ d ih =>
      intro i hi
      refine Ev.step (fun k => ?_) (ih (i + 1) (by omega))
      rw [codesearchref05_Same.l0, if_pos (show (i : Int) < (l.length : Int) by omega), if_pos (show (0 : Int) ≤ (i : Int) by omega), if_pos (show (i : Int) < (l.length : Int) by omega), if_pos rfl, w64 (by omega) (by omega)]
      rfl
  exact Ev.congr (fun k => by rw [codesearchref05_Same.f, if_pos rfl]; rfl) (key l.length 0 (by omega))
theorem In_go (l : List Int) (n : Int) (hl : l.length ≤ 9223372036854775000) : Ev (fun k => codesearchref05_In.f k l n) (decide (n ∈ l)) := by
  have key : ∀ d (i : Nat), i + d = l.length → Ev (fun k => codesearchref05_In.l0 k l n (i : Int)) (decide (n ∈ l.drop i)) := by
    intro d
    induction d with
    | zero =>
      intro i hi
      rw [List.drop_of_length_le (by omega)]
      refine Ev.step (f := fun _ => some false) (fun k => ?_) (Ev.now _)
      rw [codesearchref05_In.l0, if_neg (show ¬ (i : Int) < (l.length : Int) by omega)]
    | succ d ih =>
      intro i hi
      have hlt : i < l.length := by omega
      rw [drop_cons l i hlt]
      by_cases h : l[i] = n
      · refine Ev.step (f := fun _ => some (decide (n ∈ l[i] :: l.drop (i + 1)))) (fun k => ?_) (Ev.now _)
        rw [codesearchref05_In.l0, if_pos (show (i : Int) < (l.length : Int) by omega), if_pos (show (0 : Int) ≤ (i : Int) by omega), rd_nat l i hlt, if_pos h]
        simp [h]
      · rw [show decide (n ∈ l[i] :: l.drop (i + 1)) = decide (n ∈ l.drop (i + 1)) from decide_eq_decide.2 (by rw [List.mem_cons]; exact ⟨fun h1 => h1.resolve_left (fun e => h e.symm), .inr⟩)]
        refine Ev.step (fun k => ?_) (ih (i + 1) (by omega))
        rw [codesearchref05_In.l0, if_pos (show (i : Int) < (l.length : Int) by omega), if_pos (show (0 : Int) ≤ (i : Int) by omega), rd_nat l i hlt, if_neg h, w64 (by omega) (by omega)]
        rfl
  exact key l.length 0 (by omega)
/-- A sorted list with one more. -/
def ins : List Int → Int → List Int
  | [], n => [n]
  | a :: l, n => if a ≥ n then (if a > n then n :: a :: l else a :: l) else a :: ins l n
theorem ins_len (l : List Int) (n : Int) : (ins l n).length ≤ l.length + 1 := by
  induction l with
  | nil => simp [ins]
  | cons a l ih => rw [ins]; split <;> (try split) <;> simp <;> omega
theorem mem_ins (l : List Int) (n x : Int) : x ∈ ins l n ↔ x = n ∨ x ∈ l := by
  induction l with
  | nil => simp [ins]
  | cons a l ih =>
    rw [ins]
    split
    · split
      · simp
      · have : a = n := by omega
        subst this; simp
    · simp [ih]
      constructor
      · rintro (h | h | h) <;> simp [h]
      · rintro (h | h | h) <;> simp [h]
theorem ins_srt : ∀ (l : List Int) (n : Int), l.Pairwise (· < ·) → (ins l n).Pairwise (· < ·)
  | [], n, _ => by simp [ins]
  | a :: l, n, h => by
    have h1 := List.pairwise_cons.1 h
    rw [ins]
    split
    · split
      · refine List.pairwise_cons.2 ⟨fun x hx => ?_, h⟩
        rcases List.mem_cons.1 hx with e | e
        · omega
        · have := h1.1 x e; omega
      · exact h
    · refine List.pairwise_cons.2 ⟨fun x hx => ?_, ins_srt l n h1.2⟩
      rcases (mem_ins l n x).1 hx with e | e
      · omega
      · exact h1.1 x e
theorem Put_done (l : List Int) (n : Int) (hl : l.length ≤ 1000000000000) : ∀ d (i : Nat) (out : List Int), i + d = l.length → out.length + d ≤ 2000000000000 →
    Ev (fun k => codesearchref05_Put.l0 k l n out true (i : Int)) (out ++ l.drop i) := by
  intro d
  induction d with
  | zero =>
    intro i out hi ho
    rw [List.drop_of_length_le (by omega), List.append_nil]
    refine Ev.step (f := fun _ => some out) (fun k => ?_) (Ev.now _)
    rw [codesearchref05_Put.l0, if_neg (show ¬ (i : Int) < (l.length : Int) by omega), if_pos rfl]
  | succ d ih =>
    intro i out hi ho
    have hlt : i < l.length := by omega
    have hthis := ih (i + 1) (out ++ [l[i]]) (by omega) (by simp; omega)
    rw [List.append_assoc] at hthis
    rw [drop_cons l i hlt]
    refine Ev.step (f := fun k => codesearchref05_Put.j1 k l n out true (i : Int) false) (fun k => ?_) (Ev.step (fun k => ?_) hthis)
    · rw [codesearchref05_Put.l0, if_pos (show (i : Int) < (l.length : Int) by omega), if_pos rfl]
    · rw [codesearchref05_Put.j1, if_neg (by decide), if_pos (show (0 : Int) ≤ (i : Int) by omega), if_pos (show (i : Int) < (l.length : Int) by omega), if_pos (show out.length < 17592186044416 by omega), rd_nat l i hlt, w64 (by omega) (by omega)]
      rfl
theorem sPut_go (l : List Int) (n : Int) (hl : l.length ≤ 1000000000000) : Ev (fun k => codesearchref05_Put.f k l n) (ins l n) := by
  have key : ∀ d (i : Nat) (out : List Int), i + d = l.length → out.length + d ≤ 1000000000000 → Ev (fun k => codesearchref05_Put.l0 k l n out false (i : Int)) (out ++ ins (l.drop i) n) := by
    intro d
    induction d with
    | zero =>
      intro i out hi ho
      rw [List.drop_of_length_le (by omega)]
      refine Ev.step (f := fun _ => some (out ++ [n])) (fun k => ?_) (Ev.now _)
      rw [codesearchref05_Put.l0, if_neg (show ¬ (i : Int) < (l.length : Int) by omega), if_neg (by decide), if_pos (show out.length < 17592186044416 by omega)]
    | succ d ih =>
      intro i out hi ho
      have hlt : i < l.length := by omega
      rw [drop_cons l i hlt, ins]
      refine Ev.step (f := fun k => codesearchref05_Put.j1 k l n out false (i : Int) (decide (l[i] ≥ n))) (fun k => ?_) ?_
      · rw [codesearchref05_Put.l0, if_pos (show (i : Int) < (l.length : Int) by omega), if_neg (by decide), if_pos (show (0 : Int) ≤ (i : Int) by omega), rd_nat l i hlt]
      · by_cases hge : l[i] ≥ n
        · rw [if_pos hge]
          by_cases hgt : l[i] > n
          · rw [if_pos hgt]
            have hthis := Put_done l n hl d (i + 1) (out ++ [n] ++ [l[i]]) (by omega) (by simp; omega)
            rw [List.append_assoc, List.append_assoc] at hthis
            refine Ev.step (fun k => ?_) hthis
            rw [codesearchref05_Put.j1, if_pos (decide_eq_true hge), if_pos (show (0 : Int) ≤ (i : Int) by omega), if_pos (show (i : Int) < (l.length : Int) by omega), rd_nat l i hlt, if_pos hgt, if_pos (show out.length < 17592186044416 by omega), Option.bind_some, if_pos (show (out ++ [n]).length < 17592186044416 by simp; omega), w64 (by omega) (by omega), List.append_assoc]
            rfl
          · rw [if_neg hgt]
            have hthis := Put_done l n hl d (i + 1) (out ++ [l[i]]) (by omega) (by simp; omega)
            rw [List.append_assoc] at hthis
            refine Ev.step (fun k => ?_) hthis
            rw [codesearchref05_Put.j1, if_pos (decide_eq_true hge), if_pos (show (0 : Int) ≤ (i : Int) by omega), if_pos (show (i : Int) < (l.length : Int) by omega), rd_nat l i hlt, if_neg hgt, if_pos (show out.length < 17592186044416 by omega), w64 (by omega) (by omega)]
            rfl
        · rw [if_neg hge]
          have hthis := ih (i + 1) (out ++ [l[i]]) (by omega) (by simp; omega)
          rw [List.append_assoc] at hthis
          refine Ev.step (fun k => ?_) hthis
          rw [codesearchref05_Put.j1, if_neg (by simp [hge]), if_pos (show (0 : Int) ≤ (i : Int) by omega), if_pos (show (i : Int) < (l.length : Int) by omega), if_pos (show out.length < 17592186044416 by omega), rd_nat l i hlt, w64 (by omega) (by omega)]
          rfl
  exact key l.length 0 [] (by omega) (by simp; omega)
/-- The elements of a list that p lets in, one after the other. -/
def insAll (p : Int → Bool) : List Int → List Int → List Int
  | out, [] => out
  | out, x :: l => insAll p (if p x = true then ins out x else out) l
theorem insAll_len (p : Int → Bool) (l : List Int) : ∀ out, (insAll p out l).length ≤ out.length + l.length := by
  induction l with
  | nil => intro out; simp [insAll]
  | cons x l ih =>
    intro out
    rw [insAll]
    refine Nat.le_trans (ih _) ?_
    have := ins_len out x
    split <;> simp <;> omega
theorem insAll_srt (p : Int → Bool) (l : List Int) : ∀ out, out.Pairwise (· < ·) → (insAll p out l).Pairwise (· < ·) := by
  induction l with
  | nil => intro out h; exact h
  | cons x l ih =>
    intro out h
    rw [insAll]
    refine ih _ ?_
    split
    · exact ins_srt _ _ h
    · exact h
theorem mem_insAll (p : Int → Bool) (l : List Int) (y : Int) : ∀ out, y ∈ insAll p out l ↔ y ∈ out ∨ (y ∈ l ∧ p y = true) := by
  induction l with
  | nil => intro out; simp [insAll]
  | cons x l ih =>
    intro out
    rw [insAll, ih]
    by_cases h : p x = true
    · rw [if_pos h, mem_ins]
      constructor
      · rintro ((rfl | h1) | ⟨h1, h2⟩)
        · exact .inr ⟨by simp, h⟩
        · exact .inl h1
        · exact .inr ⟨by simp [h1], h2⟩
      · rintro (h1 | ⟨h1, h2⟩)
        · exact .inl (.inr h1)
        · rcases List.mem_cons.1 h1 with e | e
          · exact .inl (.inl e)
          · exact .inr ⟨e, h2⟩
    · rw [if_neg h]
      constructor
      · rintro (h1 | ⟨h1, h2⟩)
        · exact .inl h1
        · exact .inr ⟨by simp [h1], h2⟩
      · rintro (h1 | ⟨h1, h2⟩)
        · exact .inl h1
        · rcases List.mem_cons.1 h1 with e | e
          · subst e; exact absurd h2 h
          · exact .inr ⟨e, h2⟩
theorem rAnd_go (a b : List Int) (ha : a.length ≤ 100000000) (hb : b.length ≤ 100000000) : Ev (fun k => codesearchref05_And.f k a b) (insAll (fun x => decide (x ∈ b)) [] a) := by
  have key : ∀ d (i : Nat) (out : List Int), i + d = a.length → out.length + d ≤ 1000000000 → Ev (fun k => codesearchref05_And.l0 k a b out (i : Int)) (insAll (fun x => decide (x ∈ b)) out (a.drop i)) := by
    intro d
    induction d with
    | zero =>
      intro i out hi ho
      rw [List.drop_of_length_le (by omega)]
      refine Ev.step (f := fun _ => some out) (fun k => ?_) (Ev.now _)
      rw [codesearchref05_And.l0, if_neg (show ¬ (i : Int) < (a.length : Int) by omega)]
    | succ d ih =>
      intro i out hi ho
      have hlt : i < a.length := by omega
      rw [drop_cons a i hlt, insAll]
      refine Ev.step (fun k => by rw [codesearchref05_And.l0, if_pos (show (i : Int) < (a.length : Int) by omega), if_pos (show (0 : Int) ≤ (i : Int) by omega), rd_nat a i hlt, w64 (by omega) (by omega)]) (Ev.bind (In_go b a[i] (by omega)) ?_)
      by_cases h : a[i] ∈ b
      · rw [if_pos (decide_eq_true h)]
        refine Ev.ite_pos (decide_eq_true h) (Ev.bind (sPut_go out a[i] (by omega)) ?_)
        exact ih (i + 1) _ (by omega) (by have := ins_len out a[i]; omega)
      · rw [if_neg (by simp [h])]
        refine Ev.ite_neg (by simp [h]) ?_
        exact ih (i + 1) _ (by omega) (by omega)
  exact key a.length 0 [] (by omega) (by simp; omega)
theorem rMinus_go (a b : List Int) (ha : a.length ≤ 100000000) (hb : b.length ≤ 100000000) : Ev (fun k => codesearchref05_Minus.f k a b) (insAll (fun x => !decide (x ∈ b)) [] a) := by
  have key : ∀ d (i : Nat) (out : List Int), i + d = a.length → out.length + d ≤ 1000000000 → Ev (fun k => codesearchref05_Minus.l0 k a b out (i : Int)) (insAll (fun x => !decide (x ∈ b)) out (a.drop i)) := by
    intro d
    induction d with
    | zero =>
      intro i out hi ho
      rw [List.drop_of_length_le (by omega)]
      refine Ev.step (f := fun _ => some out) (fun k => ?_) (Ev.now _)
      rw [codesearchref05_Minus.l0, if_neg (show ¬ (i : Int) < (a.length : Int) by omega)]
    | succ d ih =>
      intro i out hi ho
      have hlt : i < a.length := by omega
      rw [drop_cons a i hlt, insAll]
      refine Ev.step (fun k => by rw [codesearchref05_Minus.l0, if_pos (show (i : Int) < (a.length : Int) by omega), if_pos (show (0 : Int) ≤ (i : Int) by omega), rd_nat a i hlt, w64 (by omega) (by omega)]) (Ev.bind (In_go b a[i] (by omega)) ?_)
      by_cases h : a[i] ∈ b
      · rw [if_neg (by simp [h])]
        refine Ev.ite_pos (decide_eq_true h) ?_
        exact ih (i + 1) _ (by omega) (by omega)
      · rw [if_pos (by simp [h])]
        refine Ev.ite_neg (by simp [h]) (Ev.bind (sPut_go out a[i] (by omega)) ?_)
        exact ih (i + 1) _ (by omega) (by have := ins_len out a[i]; omega)
  exact key a.length 0 [] (by omega) (by simp; omega)
theorem rOr_go1 (b : List Int) : ∀ d (i : Nat) (out : List Int), i + d = b.length → b.length ≤ 100000000 → out.length + d ≤ 1000000000 → Ev (fun k => codesearchref05_Or.l1 k b out (i : Int)) (insAll (fun _ => true) out (b.drop i)) := by
  intro d
  induction d with
  | zero =>
    intro i out hi hb ho
    rw [List.drop_of_length_le (by omega)]
    refine Ev.step (f := fun _ => some out) (fun k => ?_) (Ev.now _)
    rw [codesearchref05_Or.l1, if_neg (show ¬ (i : Int) < (b.length : Int) by omega)]
  | succ d ih =>
    intro i out hi hb ho
    have hlt : i < b.length := by omega
    rw [drop_cons b i hlt, insAll, if_pos rfl]
    refine Ev.step (fun k => by rw [codesearchref05_Or.l1, if_pos (show (i : Int) < (b.length : Int) by omega), if_pos (show (0 : Int) ≤ (i : Int) by omega), rd_nat b i hlt, w64 (by omega) (by omega)]) (Ev.bind (sPut_go out b[i] (by omega)) ?_)
    exact ih (i + 1) _ (by omega) hb (by have := ins_len out b[i]; omega)
theorem rOr_go (a b : List Int) (ha : a.length ≤ 100000000) (hb : b.length ≤ 100000000) : Ev (fun k => codesearchref05_Or.f k a b) (insAll (fun _ => true) (insAll (fun _ => true) [] a) b) := by
  have key : ∀ d (i : Nat) (out : List Int), i + d = a.length → out.length + d ≤ 100000000 → Ev (fun k => codesearchref05_Or.l0 k a b out (i : Int)) (insAll (fun _ => true) (insAll (fun _ => true) out (a.drop i)) b) := by
    intro d
    induction d with
    | zero =>
      intro i out hi ho
      rw [List.drop_of_length_le (by omega)]
      refine Ev.step (fun k => by rw [codesearchref05_Or.l0, if_neg (show ¬ (i : Int) < (a.length : Int) by omega)]; rfl) (rOr_go1 b b.length 0 out (by omega) hb (by omega))
    | succ d ih =>
      intro i out hi ho
      have hlt : i < a.length := by omega
      rw [drop_cons a i hlt, insAll, if_pos rfl]
      refine Ev.step (fun k => by rw [codesearchref05_Or.l0, if_pos (show (i : Int) < (a.length : Int) by omega), if_pos (show (0 : Int) ≤ (i : Int) by omega), rd_nat a i hlt, w64 (by omega) (by omega)]) (Ev.bind (sPut_go out a[i] (by omega)) ?_)
      exact ih (i + 1) _ (by omega) (by have := ins_len out a[i]; omega)
  exact key a.length 0 [] (by omega) (by simp; omega)
/-- The sets of the program and of the document. -/
def andS (a b : List Int) : List Int := (uniq a).filter fun x => (uniq b).contains x
def minusS (a b : List Int) : List Int := (uniq a).filter fun x => !(uniq b).contains x
def orS (a b : List Int) : List Int := uniq (a ++ b)
theorem andS_srt (a b : List Int) : (andS a b).Pairwise (· < ·) := (uniq_srt a).filter _
theorem minusS_srt (a b : List Int) : (minusS a b).Pairwise (· < ·) := (uniq_srt a).filter _
theorem orS_srt (a b : List Int) : (orS a b).Pairwise (· < ·) := uniq_srt _
theorem mem_andS (a b : List Int) (x : Int) : x ∈ andS a b ↔ x ∈ a ∧ x ∈ b := by simp [andS, mem_uniq]
theorem mem_minusS (a b : List Int) (x : Int) : x ∈ minusS a b ↔ x ∈ a ∧ x ∉ b := by simp [minusS, mem_uniq]
theorem mem_orS (a b : List Int) (x : Int) : x ∈ orS a b ↔ x ∈ a ∨ x ∈ b := by simp [orS, mem_uniq]
theorem andS_len (a b : List Int) : (andS a b).length ≤ a.length := Nat.le_trans (List.length_filter_le _ _) (uniq_len a)
theorem minusS_len (a b : List Int) : (minusS a b).length ≤ a.length := Nat.le_trans (List.length_filter_le _ _) (uniq_len a)
theorem orS_len (a b : List Int) : (orS a b).length ≤ a.length + b.length := by have := uniq_len (a ++ b); simpa [orS] using this
theorem rAnd_is (a b : List Int) (ha : a.length ≤ 100000000) (hb : b.length ≤ 100000000) : Ev (fun k => codesearchref05_And.f k a b) (andS a b) := by
  rw [srt_ext (andS_srt a b) (insAll_srt (fun x => decide (x ∈ b)) a [] (by simp)) (fun x => by rw [mem_andS, mem_insAll]; simp)]
  exact rAnd_go a b ha hb
theorem rMinus_is (a b : List Int) (ha : a.length ≤ 100000000) (hb : b.length ≤ 100000000) : Ev (fun k => codesearchref05_Minus.f k a b) (minusS a b) := by
  rw [srt_ext (minusS_srt a b) (insAll_srt (fun x => !decide (x ∈ b)) a [] (by simp)) (fun x => by rw [mem_minusS, mem_insAll]; simp)]
  exact rMinus_go a b ha hb
theorem rOr_is (a b : List Int) (ha : a.length ≤ 100000000) (hb : b.length ≤ 100000000) : Ev (fun k => codesearchref05_Or.f k a b) (orS a b) := by
  rw [srt_ext (orS_srt a b) (insAll_srt (fun _ => true) b _ (insAll_srt (fun _ => true) a [] (by simp))) (fun x => by rw [mem_orS, mem_insAll, mem_insAll]; simp)]
  exact rOr_go a b ha hb
theorem And_is (a b : List Int) (ha : a.length ≤ 100000000) (hb : b.length ≤ 100000000) : posting_And.f a b = some (andS a b) := by
  rw [posting_And.f, if_pos (by omega), if_pos (by omega)]; rfl
theorem Minus_is (a b : List Int) (ha : a.length ≤ 100000000) (hb : b.length ≤ 100000000) : posting_Minus.f a b = some (minusS a b) := by
  rw [posting_Minus.f, if_pos (by omega), if_pos (by omega)]; rfl
theorem unique_is (a : List Int) (ha : a.length ≤ 900000000) : posting_unique_int.f a = some (uniq a) := by
  rw [posting_unique_int.f, if_pos (by omega)]
theorem rd_L1_nat (l : List (List Int)) (i : Nat) (h : i < l.length) : rd_L1 l (i : Int) = l[i] := rdOf_nat _ l i h
theorem Concat2 (a b : List Int) (ha : a.length ≤ 100000000) (hb : b.length ≤ 100000000) : Ev (fun k => slices_Concat_int_int.f k [a, b]) (a ++ b) := by
  refine ⟨6, fun k hk => ?_⟩
  obtain ⟨k, rfl⟩ : ∃ j, k = j + 6 := ⟨k - 6, by omega⟩
  show slices_Concat_int_int.f (k + 6) [a, b] = some (a ++ b)
  rw [slices_Concat_int_int.f]
  rw [slices_Concat_int_int.l0, if_pos (by simp), if_pos (by simp), if_pos (by simp), show rd_L1 [a, b] 0 = a from rfl, w64 (by omega) (by omega), if_neg (by omega), show wrap64 (0 + 1) = 1 from w64 (by omega) (by omega)]
  rw [slices_Concat_int_int.l0, if_pos (by simp), if_pos (by simp), if_pos (by simp), show rd_L1 [a, b] 1 = b from rfl, w64 (by omega) (by omega), if_neg (by omega), show wrap64 (1 + 1) = 2 from w64 (by omega) (by omega)]
  rw [slices_Concat_int_int.l0, if_neg (by simp), slices_Grow_int_int.f, if_pos (by omega), if_pos (by omega), Option.bind_some]
  rw [slices_Concat_int_int.l1, if_pos (by simp), if_pos (by simp), if_pos (by simp), show rd_L1 [a, b] 0 = a from rfl, if_pos (by simp; omega), show wrap64 (0 + 1) = 1 from w64 (by omega) (by omega)]
  rw [slices_Concat_int_int.l1, if_pos (by simp), if_pos (by simp), if_pos (by simp), show rd_L1 [a, b] 1 = b from rfl, if_pos (by simp; omega), show wrap64 (1 + 1) = 2 from w64 (by omega) (by omega)]
  rw [slices_Concat_int_int.l1, if_neg (by simp)]
  simp
theorem Or_is (a b : List Int) (ha : a.length ≤ 100000000) (hb : b.length ≤ 100000000) : Ev (fun k => posting_Or.f k a b) (orS a b) := by
  refine Ev.congr (fun k => rfl) (Ev.bind (Concat2 a b ha hb) (Ev.bind_eq (unique_is (a ++ b) (by simp; omega)) ?_))
  exact Ev.now _
/-- Valid lists. -/
def okV (lo : Int) : List Int → Bool
  | [] => true
  | x :: l => decide (0 ≤ x) && decide (x ≤ 9999) && decide (lo < x) && okV x l
def prevV (l : List Int) (i : Nat) : Int := if i = 0 then -1 else l.getD (i - 1) 0
theorem prevV_succ (l : List Int) (i : Nat) (h : i < l.length) : prevV l (i + 1) = l[i] := by
  simp [prevV, List.getD_eq_getElem?_getD, List.getElem?_eq_getElem h]
theorem Valid_is (l : List Int) (hl : l.length ≤ 9223372036854775000) : Ev (fun k => posting_Valid.f k l) (okV (-1) l) := by
  have key : ∀ d (i : Nat), i + d = l.length → Ev (fun k => posting_Valid.l0 k l l (l.length : Int) (i : Int)) (okV (prevV l i) (l.drop i)) := by
    intro d
    induction d with
    | zero =>
      intro i hi
      rw [List.drop_of_length_le (by omega)]
      refine Ev.step (f := fun _ => some true) (fun k => ?_) (Ev.now _)
      rw [posting_Valid.l0, if_neg (show ¬ (i : Int) < (l.length : Int) by omega)]
    | succ d ih =>
      intro i hi
      have hlt : i < l.length := by omega
      have hih := ih (i + 1) (by omega)
      rw [prevV_succ l i hlt] at hih
      rw [drop_cons l i hlt, okV]
      have hd : ∀ k, posting_Valid.l0 (k + 1) l l (l.length : Int) (i : Int) = if l[i] < 0 then some false else if l[i] > 9999 then some false else if (i : Int) > 0 then (if 0 ≤ (wrap64 ((i : Int) - 1)) then (if (wrap64 ((i : Int) - 1)) < (l.length : Int) then (if l[i] ≤ (rd l (wrap64 ((i : Int) - 1))) then (some false) else (posting_Valid.l0 k l l (l.length : Int) (((i + 1 : Nat) : Int)))) else (none)) else (none)) else (posting_Valid.l0 k l l (l.length : Int) ((i + 1 : Nat) : Int)) := by
        intro k
        rw [posting_Valid.l0, if_pos (show (i : Int) < (l.length : Int) by omega), if_pos (show (0 : Int) ≤ (i : Int) by omega), if_pos (show (i : Int) < (l.length : Int) by omega), rd_nat l i hlt, w64 (x := (i : Int) + 1) (by omega) (by omega)]
        rfl
      by_cases h0 : l[i] < 0
      · rw [show decide (0 ≤ l[i]) = false from by simp; omega]
        exact Ev.step (f := fun _ => some false) (fun k => by rw [hd, if_pos h0]) (Ev.now _)
      · rw [show decide (0 ≤ l[i]) = true from by simp; omega]
        by_cases h9 : l[i] > 9999
        · rw [show decide (l[i] ≤ 9999) = false from by simp; omega]
          exact Ev.step (f := fun _ => some false) (fun k => by rw [hd, if_neg h0, if_pos h9]) (Ev.now _)
        · rw [show decide (l[i] ≤ 9999) = true from by simp; omega]
          by_cases hi0 : i = 0
          · rw [show decide (prevV l i < l[i]) = true from by subst hi0; simp [prevV]; omega]
            exact Ev.step (fun k => by rw [hd, if_neg h0, if_neg h9, if_neg (by omega)]) hih
          · have hp : prevV l i = l[i - 1]'(by omega) := by
              have := prevV_succ l (i - 1) (by omega)
              rwa [show i - 1 + 1 = i from by omega] at this
            have e1 : wrap64 ((i : Int) - 1) = ((i - 1 : Nat) : Int) := by rw [w64 (by omega) (by omega)]; omega
            rw [hp]
            by_cases hle : l[i] ≤ l[i - 1]'(by omega)
            · rw [show decide (l[i - 1]'(by omega) < l[i]) = false from by simp; omega]
              exact Ev.step (f := fun _ => some false) (fun k => by rw [hd, if_neg h0, if_neg h9, if_pos (by omega), e1, if_pos (by omega), if_pos (by omega), rd_nat l (i - 1) (by omega), if_pos hle]) (Ev.now _)
            · rw [show decide (l[i - 1]'(by omega) < l[i]) = true from by simp; omega]
              exact Ev.step (fun k => by rw [hd, if_neg h0, if_neg h9, if_pos (by omega), e1, if_pos (by omega), if_pos (by omega), rd_nat l (i - 1) (by omega), if_neg hle]) hih
  exact key l.length 0 (by omega)
theorem rValid_is (l : List Int) (hl : l.length ≤ 9223372036854775000) : Ev (fun k => codesearchref05_Valid.f k l) (okV (-1) l) := by
  have key : ∀ d (i : Nat), i + d = l.length → Ev (fun k => codesearchref05_Valid.l0 k l (i : Int)) (okV (prevV l i) (l.drop i)) := by
    intro d
    induction d with
    | zero =>
      intro i hi
      rw [List.drop_of_length_le (by omega)]
      refine Ev.step (f := fun _ => some true) (fun k => ?_) (Ev.now _)
      rw [codesearchref05_Valid.l0, if_neg (show ¬ (i : Int) < (l.length : Int) by omega)]
    | succ d ih =>
      intro i hi
      have hlt : i < l.length := by omega
      have hih := ih (i + 1) (by omega)
      rw [prevV_succ l i hlt] at hih
      rw [drop_cons l i hlt, okV]
      have hd : ∀ k, codesearchref05_Valid.l0 (k + 1) l (i : Int) = if l[i] < 0 then some false else if l[i] > 9999 then some false else if (i : Int) > 0 then (if 0 ≤ (wrap64 ((i : Int) - 1)) then (if (wrap64 ((i : Int) - 1)) < (l.length : Int) then (if l[i] ≤ (rd l (wrap64 ((i : Int) - 1))) then (some false) else (codesearchref05_Valid.l0 k l (((i + 1 : Nat) : Int)))) else (none)) else (none)) else (codesearchref05_Valid.l0 k l ((i + 1 : Nat) : Int)) := by
        intro k
        rw [codesearchref05_Valid.l0, if_pos (show (i : Int) < (l.length : Int) by omega), if_pos (show (0 : Int) ≤ (i : Int) by omega), rd_nat l i hlt, w64 (x := (i : Int) + 1) (by omega) (by omega)]
        rfl
      by_cases h0 : l[i] < 0
      · rw [show decide (0 ≤ l[i]) = false from by simp; omega]
        exact Ev.step (f := fun _ => some false) (fun k => by rw [hd, if_pos h0]) (Ev.now _)
      · rw [show decide (0 ≤ l[i]) = true from by simp; omega]
        by_cases h9 : l[i] > 9999
        · rw [show decide (l[i] ≤ 9999) = false from by simp; omega]
          exact Ev.step (f := fun _ => some false) (fun k => by rw [hd, if_neg h0, if_pos h9]) (Ev.now _)
        · rw [show decide (l[i] ≤ 9999) = true from by simp; omega]
          by_cases hi0 : i = 0
          · rw [show decide (prevV l i < l[i]) = true from by subst hi0; simp [prevV]; omega]
            exact Ev.step (fun k => by rw [hd, if_neg h0, if_neg h9, if_neg (by omega)]) hih
          · have hp : prevV l i = l[i - 1]'(by omega) := by
              have := prevV_succ l (i - 1) (by omega)
              rwa [show i - 1 + 1 = i from by omega] at this
            have e1 : wrap64 ((i : Int) - 1) = ((i - 1 : Nat) : Int) := by rw [w64 (by omega) (by omega)]; omega
            rw [hp]
            by_cases hle : l[i] ≤ l[i - 1]'(by omega)
            · rw [show decide (l[i - 1]'(by omega) < l[i]) = false from by simp; omega]
              exact Ev.step (f := fun _ => some false) (fun k => by rw [hd, if_neg h0, if_neg h9, if_pos (by omega), e1, if_pos (by omega), if_pos (by omega), rd_nat l (i - 1) (by omega), if_pos hle]) (Ev.now _)
            · rw [show decide (l[i - 1]'(by omega) < l[i]) = true from by simp; omega]
              exact Ev.step (fun k => by rw [hd, if_neg h0, if_neg h9, if_pos (by omega), e1, if_pos (by omega), if_pos (by omega), rd_nat l (i - 1) (by omega), if_neg hle]) hih
  exact key l.length 0 (by omega)
end Go.Proofs.Ytknpmknkkofnjaa.Q
