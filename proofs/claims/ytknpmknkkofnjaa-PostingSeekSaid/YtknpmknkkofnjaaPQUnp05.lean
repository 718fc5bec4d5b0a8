/- Chapter 5: an unpacked list, the program's and the document's; Seek. -/
import Derived.Test.YtknpmknkkofnjaaPQPack05
import Derived.Test.YtknpmknkkofnjaaPQRGets03
import Derived.Test.YtknpmknkkofnjaaPQBack03
import Derived.Test.YtknpmknkkofnjaaPx5
import Derived.Test.YtknpmknkkofnjaaPx13
namespace Go.Proofs.Ytknpmknkkofnjaa.Q
open Go.RowKit Go.Proofs.YtknpmknkkofnjaaW.PrintWords Go.Proofs.YtknpmknkkofnjaaW.PrintLast Go.Proofs.YtknpmknkkofnjaaW.PrintMore Go.Proofs.Ytknpmknkkofnjaa.P
set_option linter.unusedVariables false
set_option linter.unusedSimpArgs false
theorem encL_range (l : List Int) : ∀ lo, okL (lo - 1) l = true → (∀ x ∈ l, x ≤ 9999) → 0 ≤ lo → ∀ c ∈ encL lo l, 0 ≤ c ∧ c < 256 := by
  induction l with
  | nil => intro lo _ _ _ c hc; simp [encL] at hc
  | cons x l ih =>
    intro lo h1 h2 h3 c hc
    simp only [okL, Bool.and_eq_true, decide_eq_true_eq] at h1
    have hx := h2 x (by simp)
    rw [encL, List.mem_append] at hc
    rcases hc with hc | hc
    · exact enc7_range 10 (x - lo) (by omega) (Int.lt_of_lt_of_le (show x - lo < 18446744073709551616 by omega) (by decide)) c hc
    · refine ih x ?_ (fun y hy => h2 y (by simp [hy])) (by omega) c hc
      have : ∀ (m : List Int) (a b : Int), a ≤ b → okL b m = true → okL a m = true := by
        intro m
        cases m with
        | nil => intro a b _ _; rfl
        | cons y m => intro a b hab h; simp only [okL, Bool.and_eq_true, decide_eq_true_eq] at h ⊢; exact ⟨by omega, h.2⟩
      exact this l (x - 1) x (by omega) h1.2
theorem blockB_range {l : List Int} (h : OkV l) : ∀ c ∈ blockB l, 0 ≤ c ∧ c < 256 := by
  intro c hc
  have hs := h.sub (List.take_sublist 16 l)
  have h16 : (l.take 16).length ≤ 16 := by rw [List.length_take]; omega
  rw [blockB, List.mem_append] at hc
  rcases hc with hc | hc
  · exact enc7_range 10 _ (by omega) (Int.lt_of_lt_of_le (show ((l.take 16).length : Int) < 18446744073709551616 by omega) (by decide)) c hc
  · exact encL_range _ 0 hs.okL (fun x hx => (hs.2 x hx).2) (by omega) c hc
theorem getLastD_mem (l : List Int) (h : 0 < l.length) : l.getLastD 0 ∈ l := by
  cases l with
  | nil => simp at h
  | cons a l => rw [List.getLastD_cons]; cases hl : l with
    | nil => simp
    | cons b m => rw [← hl, List.getLastD_eq_getLast?, List.getLast?_eq_some_getLast (by rw [hl]; simp)]; simp only [Option.getD_some]; exact List.mem_cons_of_mem _ (List.getLast_mem _)
theorem packF_range (n : Nat) : ∀ l, OkV l → (∀ c ∈ (packF n l).1, 0 ≤ c ∧ c < 256) ∧ (∀ c ∈ (packF n l).2, 0 ≤ c ∧ c < 256) := by
  induction n with
  | zero => intro l _; simp [packF]
  | succ n ih =>
    intro l h
    have h1 := ih (l.drop 16) (h.sub (List.drop_sublist _ _))
    have h2 := blockB_range h
    have h3 := blockB_len l
    rw [packF]
    split
    · simp
    · rename_i hz
      have hm := getLastD_mem (l.take 16) (by rw [List.length_take]; omega)
      have hv := h.2 _ (List.mem_of_mem_take hm)
      constructor
      · intro c hc
        simp only [List.mem_append] at hc
        rcases hc with (hc | hc) | hc
        · exact enc7_range 10 _ hv.1 (Int.lt_of_lt_of_le (show (l.take 16).getLastD 0 < 18446744073709551616 by omega) (by decide)) c hc
        · exact enc7_range 10 _ (by omega) (Int.lt_of_lt_of_le (show ((blockB l).length : Int) < 18446744073709551616 by omega) (by decide)) c hc
        · exact h1.1 c hc
      · intro c hc
        simp only [List.mem_append] at hc
        rcases hc with hc | hc
        · exact h2 c hc
        · exact h1.2 c hc
theorem packL_range {l : List Int} (h : OkV l) (hl : l.length ≤ 1000000) : ∀ c ∈ packL l, 0 ≤ c ∧ c < 256 := by
  intro c hc
  have h1 := packF_range l.length l h
  simp only [packL, List.mem_append] at hc
  rcases hc with (hc | hc) | hc
  · exact enc7_range 10 _ (by omega) (Int.lt_of_lt_of_le (show (l.length : Int) < 18446744073709551616 by omega) (by decide)) c hc
  · exact h1.1 c hc
  · exact h1.2 c hc
def finU (b l : List Int) : List Int × Int := if okV (-1) l = true then (if packL l = b then (l, 0) else ([], 3)) else ([], 3)
def listsU (b : List Int) : Nat → Int → List Int → List Int × Int
  | 0, _, acc => finU b acc
  | n + 1, at_, acc => if (getL b at_ 16).2.2 = 0 then listsU b n (getL b at_ 16).2.1 (acc ++ (getL b at_ 16).1) else ([], 3)
def skipF (b : List Int) : Nat → Int → Int
  | 0, at_ => at_
  | n + 1, at_ => if (get7 b at_).2.2 = 0 then skipF b n (get7 b at_).2.1 else -1
def blocksOf (n : Int) : Nat := (n.toNat + 15) / 16
def unpackS (b : List Int) : List Int × Int :=
  if (get7 b 0).2.2 = 0 then (if (get7 b 0).1 > 10000 then ([], 3) else
    if skipF b (2 * blocksOf (get7 b 0).1) (get7 b 0).2.1 < 0 then ([], 3) else listsU b (blocksOf (get7 b 0).1) (skipF b (2 * blocksOf (get7 b 0).1) (get7 b 0).2.1) []) else ([], 3)
theorem fin_is (b l : List Int) (hb : ∀ x ∈ b, 0 ≤ x ∧ x < 256) (hl : l.length ≤ 1000000) (P : Nat → Option (List Int × Int)) (hP : Ev P (if okV (-1) l = true then (packL l, 0) else ([], 1))) :
    Ev (fun k => (P k).bind fun bt => (if bt.2 = 0 then (if (strOfNums bt.1).toList = (strOfNums b).toList then (some (l, 0)) else (some (([] : List Int), 3))) else (some (([] : List Int), 3)))) (finU b l) := by
  refine Ev.bind hP ?_
  rw [finU]
  by_cases h : okV (-1) l = true
  · rw [if_pos h, if_pos h]
    refine Ev.ite_pos rfl ?_
    by_cases he : packL l = b
    · rw [if_pos he]
      exact Ev.ite_pos (by rw [← he]) (Ev.now _)
    · rw [if_neg he]
      exact Ev.ite_neg (fun h2 => he (strOfNums_inj (packL_range ((okV_OkV l).1 h) hl) hb h2)) (Ev.now _)
  · rw [if_neg h, if_neg h]
    exact Ev.ite_neg (by decide) (Ev.now _)
theorem getLs_len (b : List Int) : ∀ (r : Nat) (more : Bool) (last at_ : Int) (acc : List Int), (getLs b r more last at_ acc).1.length ≤ acc.length + r := by
  intro r
  induction r with
  | zero => intro more last at_ acc; simp [getLs]
  | succ r ih =>
    intro more last at_ acc
    rw [getLs]
    split
    · split
      · simp
      · split
        · simp
        · refine Nat.le_trans (ih _ _ _ _) ?_
          simp; omega
    · simp
theorem getL_len16 (b : List Int) (at_ : Int) : (getL b at_ 16).1.length ≤ 16 := by
  unfold getL
  split
  · rename_i he
    split
    · simp
    · refine Nat.le_trans (getLs_len b _ _ _ _ _) ?_
      simp; omega
  · simp
theorem skipF_ok (b : List Int) : ∀ n at_, 0 ≤ at_ → skipF b n at_ = -1 ∨ 0 ≤ skipF b n at_ := by
  intro n
  induction n with
  | zero => intro at_ h; exact .inr h
  | succ n ih =>
    intro at_ h
    rw [skipF]
    split
    · rename_i he
      obtain ⟨g0, g1, p, _, _, g2, g3, g4, g5, g6⟩ := get7_ok he
      rw [g2]
      exact ih _ (by show 0 ≤ at_ + (p.length : Int); omega)
    · exact .inl rfl
theorem w_blocks (n : Int) (h0 : 0 ≤ n) (h1 : n ≤ 10000) : wrap64 (Int.tdiv (wrap64 ((wrap64 (n + 16)) - 1)) 16) = (blocksOf n : Int) := by
  rw [w64 (x := n + 16) (by omega) (by omega), w64 (x := n + 16 - 1) (by omega) (by omega), Int.tdiv_eq_ediv_of_nonneg (by omega), w64 (by omega) (by omega), blocksOf]
  omega
theorem w_two (n : Nat) (h : n ≤ 1000) : wrap64 (2 * (n : Int)) = ((2 * n : Nat) : Int) := by rw [w64 (by omega) (by omega)]; omega
theorem blocksOf_le (n : Int) (h1 : n ≤ 10000) : blocksOf n ≤ 700 := by unfold blocksOf; omega
theorem Unp_l1 (b : List Int) (hs : b.length ≤ 17592186000000) (hb : ∀ x ∈ b, 0 ≤ x ∧ x < 256) (B : Nat) (hB : B ≤ 1000) : ∀ d (i : Nat) (at_ : Int) (acc : List Int), i + d = B → acc.length ≤ 16 * i →
    Ev (fun k => posting_Unpack.l1 k b at_ acc (B : Int) (i : Int)) (listsU b d at_ acc) := by
  intro d
  induction d with
  | zero =>
    intro i at_ acc hi ha
    rw [listsU]
    refine Ev.step (fun k => by rw [posting_Unpack.l1, if_neg (show ¬ (i : Int) < (B : Int) by omega)]) (fin_is b acc hb (by omega) (fun k => posting_Pack.f k acc) (Pack_go acc (by omega)))
  | succ d ih =>
    intro i at_ acc hi ha
    have h16 := getL_len16 b at_
    rw [listsU]
    refine Ev.step (fun k => by rw [posting_Unpack.l1, if_pos (show (i : Int) < (B : Int) by omega), w64 (by omega) (by omega)]) (Ev.bind (GetList_go b at_ 16 hs hb) ?_)
    by_cases he : (getL b at_ 16).2.2 = 0
    · rw [if_pos he]
      exact Ev.ite_pos he (Ev.ite_pos (by omega) (ih (i + 1) _ _ (by omega) (by rw [List.length_append]; omega)))
    · rw [if_neg he]
      exact Ev.ite_neg he (Ev.now _)
theorem Unp_l0 (b : List Int) (hs : b.length ≤ 17592186000000) (hb : ∀ x ∈ b, 0 ≤ x ∧ x < 256) (B : Nat) (hB : B ≤ 1000) : ∀ d (i : Nat) (at_ : Int), i + d = 2 * B → 0 ≤ at_ →
    Ev (fun k => posting_Unpack.l0 k b at_ (B : Int) ((2 * B : Nat) : Int) (i : Int)) (if skipF b d at_ < 0 then ([], 3) else listsU b B (skipF b d at_) []) := by
  intro d
  induction d with
  | zero =>
    intro i at_ hi h0
    rw [skipF, if_neg (by omega)]
    refine Ev.step (fun k => by rw [posting_Unpack.l0, if_neg (show ¬ (i : Int) < ((2 * B : Nat) : Int) by omega)]; rfl) (Unp_l1 b hs hb B hB B 0 at_ [] (by omega) (by simp))
  | succ d ih =>
    intro i at_ hi h0
    rw [skipF]
    refine Ev.step (fun k => by rw [posting_Unpack.l0, if_pos (show (i : Int) < ((2 * B : Nat) : Int) by omega), w64 (by omega) (by omega)]) (Ev.bind (Get_go b at_ (by omega) hb) ?_)
    by_cases he : (get7 b at_).2.2 = 0
    · rw [if_pos he]
      obtain ⟨g0, g1, p, _, _, g2, g3, g4, g5, g6⟩ := get7_ok he
      have h2 : 0 ≤ (get7 b at_).2.1 := by rw [g2]; show 0 ≤ at_ + (p.length : Int); omega
      exact Ev.ite_pos he (ih (i + 1) _ (by omega) h2)
    · rw [if_neg he, if_pos (by omega)]
      exact Ev.ite_neg he (Ev.now _)
theorem Unpack_go (b : List Int) (hs : b.length ≤ 1000000) (hb : ∀ x ∈ b, 0 ≤ x ∧ x < 256) : Ev (fun k => posting_Unpack.f k b) (unpackS b) := by
  refine Ev.congr (fun k => by rw [posting_Unpack.f]) (Ev.bind (Get_go b 0 (by omega) hb) ?_)
  rw [unpackS]
  by_cases he : (get7 b 0).2.2 = 0
  · rw [if_pos he]
    obtain ⟨g0, g1, p, _, _, g2, g3, g4, g5, g6⟩ := get7_ok he
    have h1 : (get7 b 0).1 = val7 p := by rw [g2]
    have h2 : 0 ≤ (get7 b 0).2.1 := by rw [g2]; show (0 : Int) ≤ 0 + (p.length : Int); omega
    refine Ev.ite_pos he ?_
    by_cases hn : (get7 b 0).1 > 10000
    · rw [if_pos hn]
      refine Ev.step (f := fun _ => some (([] : List Int), 3)) (fun k => ?_) (Ev.now _)
      rw [posting_Unpack.j0, if_pos (decide_eq_true hn)]
    · rw [if_neg hn]
      have hBl := blocksOf_le (get7 b 0).1 (by omega)
      refine Ev.step (fun k => by rw [posting_Unpack.j0, if_neg (by simpa using hn), w_blocks _ (by omega) (by omega), w_two _ (by omega)]) ?_
      exact Unp_l0 b (by omega) hb _ (by omega) _ 0 _ (by omega) h2
  · rw [if_neg he]
    refine Ev.ite_neg he (Ev.step (f := fun _ => some (([] : List Int), 3)) (fun k => ?_) (Ev.now _))
    rw [posting_Unpack.j0, if_pos rfl]
theorem rUnp_l0 (b : List Int) (hs : b.length ≤ 17592186000000) (hb : ∀ x ∈ b, 0 ≤ x ∧ x < 256) (B : Nat) (hB : B ≤ 1000) : ∀ d (i : Nat) (at_ : Int) (acc : List Int), i + d = B → acc.length ≤ 16 * i →
    Ev (fun k => codesearchref05_Unpack.l0 k b at_ (B : Int) acc (i : Int)) (listsU b d at_ acc) := by
  intro d
  induction d with
  | zero =>
    intro i at_ acc hi ha
    rw [listsU]
    refine Ev.step (fun k => by rw [codesearchref05_Unpack.l0, if_neg (show ¬ (i : Int) < (B : Int) by omega)]) (fin_is b acc hb (by omega) (fun k => codesearchref05_Pack.f k acc) (rPack_go acc (by omega)))
  | succ d ih =>
    intro i at_ acc hi ha
    have h16 := getL_len16 b at_
    rw [listsU]
    refine Ev.step (fun k => by rw [codesearchref05_Unpack.l0, if_pos (show (i : Int) < (B : Int) by omega), w64 (by omega) (by omega)]) (Ev.bind (rGetList_go b at_ 16 hs hb) ?_)
    by_cases he : (getL b at_ 16).2.2 = 0
    · rw [if_pos he]
      exact Ev.ite_pos he (Ev.ite_pos (by omega) (ih (i + 1) _ _ (by omega) (by rw [List.length_append]; omega)))
    · rw [if_neg he]
      exact Ev.ite_neg he (Ev.now _)
theorem rskip_go (b : List Int) (hs : b.length ≤ 17592186000000) (hb : ∀ x ∈ b, 0 ≤ x ∧ x < 256) (n : Nat) (hn : n ≤ 100000) : ∀ d (i : Nat) (at_ : Int), i + d = n →
    Ev (fun k => codesearchref05_skip.l0 k b at_ (n : Int) (i : Int)) (skipF b d at_) := by
  intro d
  induction d with
  | zero =>
    intro i at_ hi
    rw [skipF]
    exact Ev.step (f := fun _ => some at_) (fun k => by rw [codesearchref05_skip.l0, if_neg (show ¬ (i : Int) < (n : Int) by omega)]) (Ev.now _)
  | succ d ih =>
    intro i at_ hi
    rw [skipF]
    refine Ev.step (fun k => by rw [codesearchref05_skip.l0, if_pos (show (i : Int) < (n : Int) by omega), w64 (by omega) (by omega)]) (Ev.bind (rGet_go b at_ (by omega) hb) ?_)
    by_cases he : (get7 b at_).2.2 = 0
    · rw [if_pos he]
      exact Ev.ite_pos he (ih (i + 1) _ (by omega))
    · rw [if_neg he]
      exact Ev.ite_neg he (Ev.now _)
theorem rUnpack_go (b : List Int) (hs : b.length ≤ 1000000) (hb : ∀ x ∈ b, 0 ≤ x ∧ x < 256) : Ev (fun k => codesearchref05_Unpack.f k b) (unpackS b) := by
  refine Ev.congr (fun k => by rw [codesearchref05_Unpack.f]) (Ev.bind (rGet_go b 0 (by omega) hb) ?_)
  rw [unpackS]
  by_cases he : (get7 b 0).2.2 = 0
  · rw [if_pos he]
    obtain ⟨g0, g1, p, _, _, g2, g3, g4, g5, g6⟩ := get7_ok he
    have h1 : (get7 b 0).1 = val7 p := by rw [g2]
    refine Ev.ite_pos he ?_
    by_cases hn : (get7 b 0).1 > 10000
    · rw [if_pos hn]
      refine Ev.step (f := fun _ => some (([] : List Int), 3)) (fun k => ?_) (Ev.now _)
      rw [codesearchref05_Unpack.j0, if_pos (decide_eq_true hn)]
    · rw [if_neg hn]
      have hBl := blocksOf_le (get7 b 0).1 (by omega)
      refine Ev.step (fun k => by rw [codesearchref05_Unpack.j0, if_neg (by simpa using hn), w_blocks _ (by omega) (by omega), w_two _ (by omega)]) ?_
      refine Ev.bind (Ev.congr (fun k => by rw [codesearchref05_skip.f]; rfl) (rskip_go b (by omega) hb (2 * blocksOf (get7 b 0).1) (by omega) (2 * blocksOf (get7 b 0).1) 0 _ (by omega))) ?_
      by_cases hneg : skipF b (2 * blocksOf (get7 b 0).1) (get7 b 0).2.1 < 0
      · rw [if_pos hneg]
        exact Ev.ite_pos hneg (Ev.now _)
      · rw [if_neg hneg]
        exact Ev.ite_neg hneg (rUnp_l0 b (by omega) hb (blocksOf (get7 b 0).1) (by omega) (blocksOf (get7 b 0).1) 0 _ [] (by omega) (by simp))
  · rw [if_neg he]
    refine Ev.ite_neg he (Ev.step (f := fun _ => some (([] : List Int), 3)) (fun k => ?_) (Ev.now _))
    rw [codesearchref05_Unpack.j0, if_pos rfl]
theorem listsU_len (b : List Int) : ∀ n at_ acc, (listsU b n at_ acc).1.length ≤ acc.length + 16 * n := by
  intro n
  induction n with
  | zero => intro at_ acc; rw [listsU, finU]; split <;> (try split) <;> simp
  | succ n ih =>
    intro at_ acc
    rw [listsU]
    have h16 := getL_len16 b at_
    split
    · refine Nat.le_trans (ih _ _) ?_
      rw [List.length_append]; omega
    · simp
theorem unpackS_len (b : List Int) : (unpackS b).1.length ≤ 16000 := by
  rw [unpackS]
  split
  · split
    · simp
    · rename_i hn
      have hBl := blocksOf_le (get7 b 0).1 (by omega)
      split
      · simp
      · have := listsU_len b (blocksOf (get7 b 0).1) (skipF b (2 * blocksOf (get7 b 0).1) (get7 b 0).2.1) []
        simp at this; omega
  · simp
theorem listsU_fin (b : List Int) : ∀ n at_ acc, (∃ l, listsU b n at_ acc = finU b l) ∨ listsU b n at_ acc = ([], 3) := by
  intro n
  induction n with
  | zero => intro at_ acc; exact .inl ⟨acc, rfl⟩
  | succ n ih =>
    intro at_ acc
    rw [listsU]
    split
    · exact ih _ _
    · exact .inr rfl
theorem unpackS_cases (b : List Int) : (unpackS b = ([], 3)) ∨ ∃ l, unpackS b = (l, 0) ∧ okV (-1) l = true ∧ packL l = b := by
  have hf : ∀ l, finU b l = ([], 3) ∨ ∃ m, finU b l = (m, 0) ∧ okV (-1) m = true ∧ packL m = b := by
    intro l
    by_cases h : okV (-1) l = true
    · by_cases he : packL l = b
      · exact .inr ⟨l, by rw [finU, if_pos h, if_pos he], h, he⟩
      · exact .inl (by rw [finU, if_pos h, if_neg he])
    · exact .inl (by rw [finU, if_neg h])
  rw [unpackS]
  split
  · split
    · exact .inl rfl
    · split
      · exact .inl rfl
      · rcases listsU_fin b (blocksOf (get7 b 0).1) (skipF b (2 * blocksOf (get7 b 0).1) (get7 b 0).2.1) [] with ⟨l, h⟩ | h
        · rw [h]
          rcases hf l with h2 | ⟨m, h2, h3, h4⟩
          · exact .inl h2
          · exact .inr ⟨m, h2, h3, h4⟩
        · exact .inl h
  · exact .inl rfl
/-! ### There and back -/
def nbl (n : Nat) : Nat := (n + 15) / 16
theorem skip_pack (n : Nat) : ∀ (l p t : List Int), OkV l → l.length ≤ n → skipF (p ++ ((packF n l).1 ++ t)) (2 * nbl l.length) (p.length : Int) = (p.length : Int) + ((packF n l).1.length : Int) := by
  induction n with
  | zero =>
    intro l p t h hl
    obtain rfl : l = [] := List.eq_nil_of_length_eq_zero (by omega)
    simp [packF, nbl, skipF]
  | succ n ih =>
    intro l p t h hl
    by_cases hz : l.length = 0
    · obtain rfl : l = [] := List.eq_nil_of_length_eq_zero hz
      simp [packF, nbl, skipF]
    have hm := getLastD_mem (l.take 16) (by rw [List.length_take]; omega)
    have hv := h.2 _ (List.mem_of_mem_take hm)
    have hbl := blockB_len l
    have hnb : 2 * nbl l.length = 2 * nbl (l.drop 16).length + 1 + 1 := by rw [List.length_drop, nbl, nbl]; omega
    have hthis := ih (l.drop 16) (p ++ enc7 10 ((l.take 16).getLastD 0) ++ enc7 10 ((blockB l).length : Int)) t (h.sub (List.drop_sublist _ _)) (by rw [List.length_drop]; omega)
    rw [packF, if_neg hz, hnb]
    generalize hA : enc7 10 ((l.take 16).getLastD 0) = A at hthis
    generalize hC : enc7 10 ((blockB l).length : Int) = C at hthis
    generalize hR : packF n (l.drop 16) = R at hthis
    have g1 := get7_enc p (C ++ (R.1 ++ t)) ((l.take 16).getLastD 0) hv.1 (by omega)
    have g2 := get7_enc (p ++ A) (R.1 ++ t) ((blockB l).length : Int) (by omega) (by omega)
    rw [hA] at g1
    rw [hC] at g2
    have e1 : p ++ (A ++ C ++ R.1 ++ t) = p ++ (A ++ (C ++ (R.1 ++ t))) := by simp
    have e2 : p ++ (A ++ (C ++ (R.1 ++ t))) = (p ++ A) ++ (C ++ (R.1 ++ t)) := by simp
    have e3 : (p ++ A) ++ (C ++ (R.1 ++ t)) = (p ++ A ++ C) ++ (R.1 ++ t) := by simp
    show skipF (p ++ (A ++ C ++ R.1 ++ t)) (2 * nbl (l.drop 16).length + 1 + 1) (p.length : Int) = (p.length : Int) + ((A ++ C ++ R.1).length : Int)
    rw [e1, skipF, g1, if_pos rfl]
    show skipF _ (2 * nbl (l.drop 16).length + 1) ((p.length : Int) + (A.length : Int)) = _
    rw [e2, skipF, show (p.length : Int) + (A.length : Int) = ((p ++ A).length : Int) from by simp, g2, if_pos rfl]
    show skipF _ (2 * nbl (l.drop 16).length) (((p ++ A).length : Int) + (C.length : Int)) = _
    rw [e3, show ((p ++ A).length : Int) + (C.length : Int) = ((p ++ A ++ C).length : Int) from by simp only [List.length_append]; omega, hthis]
    simp; omega
theorem lists_pack (n : Nat) : ∀ (l p t acc : List Int), OkV l → l.length ≤ n → listsU (p ++ ((packF n l).2 ++ t)) (nbl l.length) (p.length : Int) acc = finU (p ++ ((packF n l).2 ++ t)) (acc ++ l) := by
  induction n with
  | zero =>
    intro l p t acc h hl
    obtain rfl : l = [] := List.eq_nil_of_length_eq_zero (by omega)
    simp [packF, nbl, listsU]
  | succ n ih =>
    intro l p t acc h hl
    by_cases hz : l.length = 0
    · obtain rfl : l = [] := List.eq_nil_of_length_eq_zero hz
      simp [packF, nbl, listsU]
    have hs := h.sub (List.take_sublist 16 l)
    have h16 : (l.take 16).length ≤ 16 := by rw [List.length_take]; omega
    have hnb : nbl l.length = nbl (l.drop 16).length + 1 := by rw [List.length_drop, nbl, nbl]; omega
    have hthis := ih (l.drop 16) (p ++ blockB l) t (acc ++ l.take 16) (h.sub (List.drop_sublist _ _)) (by rw [List.length_drop]; omega)
    have hg := getL_enc p ((packF n (l.drop 16)).2 ++ t) (l.take 16) (by omega) hs.okL (fun x hx => by have := (hs.2 x hx).2; omega) 16 (by omega)
    change getL (p ++ (blockB l ++ ((packF n (l.drop 16)).2 ++ t))) (p.length : Int) 16 = (l.take 16, (p.length : Int) + ((blockB l).length : Int), 0) at hg
    rw [packF, if_neg hz, hnb]
    show listsU (p ++ (blockB l ++ (packF n (l.drop 16)).2 ++ t)) (nbl (l.drop 16).length + 1) (p.length : Int) acc = finU (p ++ (blockB l ++ (packF n (l.drop 16)).2 ++ t)) (acc ++ l)
    have e1 : p ++ (blockB l ++ (packF n (l.drop 16)).2 ++ t) = p ++ (blockB l ++ ((packF n (l.drop 16)).2 ++ t)) := by simp
    have e2 : p ++ (blockB l ++ ((packF n (l.drop 16)).2 ++ t)) = (p ++ blockB l) ++ ((packF n (l.drop 16)).2 ++ t) := by simp
    rw [e1, listsU, hg, if_pos rfl]
    show listsU _ (nbl (l.drop 16).length) ((p.length : Int) + ((blockB l).length : Int)) (acc ++ l.take 16) = _
    rw [e2, show (p.length : Int) + ((blockB l).length : Int) = ((p ++ blockB l).length : Int) from by simp, hthis, List.append_assoc acc, List.take_append_drop]
theorem unpack_pack (l : List Int) (h : okV (-1) l = true) (hl : l.length ≤ 10000) : unpackS (packL l) = (l, 0) := by
  have hv := (okV_OkV l).1 h
  have hg := get7_enc [] ((packF l.length l).1 ++ (packF l.length l).2) (l.length : Int) (by omega) (by omega)
  have e0 : ([] : List Int) ++ (enc7 10 (l.length : Int) ++ ((packF l.length l).1 ++ (packF l.length l).2)) = packL l := by simp [packL]
  rw [e0] at hg
  have hs := skip_pack l.length l (enc7 10 (l.length : Int)) (packF l.length l).2 hv (Nat.le_refl _)
  have hls := lists_pack l.length l (enc7 10 (l.length : Int) ++ (packF l.length l).1) [] [] hv (Nat.le_refl _)
  have e1 : enc7 10 (l.length : Int) ++ ((packF l.length l).1 ++ (packF l.length l).2) = packL l := by simp [packL]
  have e2 : enc7 10 (l.length : Int) ++ (packF l.length l).1 ++ ((packF l.length l).2 ++ []) = packL l := by simp [packL]
  rw [e1] at hs
  rw [e2] at hls
  have hb : blocksOf (l.length : Int) = nbl l.length := by simp [blocksOf, nbl]
  rw [unpackS]
  change get7 (packL l) 0 = ((l.length : Int), 0 + ((enc7 10 (l.length : Int)).length : Int), 0) at hg
  rw [Int.zero_add] at hg
  rw [hg, if_pos rfl, if_neg (by show ¬ (l.length : Int) > 10000; omega)]
  show (if skipF (packL l) (2 * blocksOf (l.length : Int)) ((enc7 10 (l.length : Int)).length : Int) < 0 then _ else listsU (packL l) (blocksOf (l.length : Int)) (skipF (packL l) (2 * blocksOf (l.length : Int)) ((enc7 10 (l.length : Int)).length : Int)) []) = _
  rw [hb, hs, if_neg (by omega), show ((enc7 10 (l.length : Int)).length : Int) + ((packF l.length l).1.length : Int) = ((enc7 10 (l.length : Int) ++ (packF l.length l).1).length : Int) from by simp, hls, List.nil_append, finU, if_pos h, if_pos rfl]
/-! ### Seek -/
def seekS (l : List Int) (n : Int) : Int × Bool := match l.find? (fun x => decide (x ≥ n)) with
  | some x => (x, true)
  | none => (0, false)
theorem Less_is (x y : Int) : cmp_Less_int.f x y = some (decide (x < y)) := by
  simp [cmp_Less_int.f, cmp_isNaN_int.f]
theorem w_half (i j : Nat) (h : i + j ≤ 1000000000) : wrap64 ((IntKind.u64.wrap (wrap64 ((i : Int) + (j : Int)))) / 2) = (((i + j) / 2 : Nat) : Int) := by
  rw [w64 (x := (i : Int) + (j : Int)) (by omega) (by omega), u64w (by omega) (by omega), w64 (by omega) (by omega)]; omega
theorem w_inc (h : Nat) (hh : h ≤ 1000000000) : wrap64 ((h : Int) + 1) = ((h + 1 : Nat) : Int) := by rw [w64 (by omega) (by omega)]; omega
theorem BS_go (l : List Int) (n : Int) (hl : l.length ≤ 100000000) (hs : l.Pairwise (· ≤ ·)) : ∃ (i : Nat) (f : Bool), Ev (fun k => slices_BinarySearch_int_int.f k l n) ((i : Int), f) ∧ i ≤ l.length ∧ (∀ t (h : t < l.length), t < i → l[t] < n) ∧ (∀ t (h : t < l.length), i ≤ t → l[t] ≥ n) := by
  have hle : ∀ a b (ha : a < l.length) (hb : b < l.length), a ≤ b → l[a] ≤ l[b] := by
    intro a b ha hb hab
    rcases Nat.lt_or_ge a b with h | h
    · exact List.pairwise_iff_getElem.1 hs a b ha hb h
    · have : a = b := by omega
      subst this; exact Int.le_refl _
  have key : ∀ d (i j : Nat), j - i ≤ d → i ≤ j → j ≤ l.length → (∀ t (h : t < l.length), t < i → l[t] < n) → (∀ t (h : t < l.length), j ≤ t → l[t] ≥ n) →
      ∃ (i' : Nat) (f : Bool), Ev (fun k => slices_BinarySearch_int_int.l0 k l n (l.length : Int) (i : Int) (j : Int)) ((i' : Int), f) ∧ i' ≤ l.length ∧ (∀ t (h : t < l.length), t < i' → l[t] < n) ∧ (∀ t (h : t < l.length), i' ≤ t → l[t] ≥ n) := by
    intro d
    induction d with
    | zero =>
      intro i j hd hij hj h1 h2
      have he : i = j := by omega
      subst he
      by_cases hlt : i < l.length
      · by_cases hx : l[i] = n
        · refine ⟨i, true, Ev.step (f := fun _ => some ((i : Int), true)) (fun k => ?_) (Ev.now _), hj, h1, h2⟩
          rw [slices_BinarySearch_int_int.l0, if_neg (by omega), if_pos (show (i : Int) < (l.length : Int) by omega), if_pos (show (0 : Int) ≤ (i : Int) by omega), if_pos (show (i : Int) < (l.length : Int) by omega), rd_nat l i hlt, if_pos hx]
        · refine ⟨i, false, Ev.step (f := fun _ => some ((i : Int), false)) (fun k => ?_) (Ev.now _), hj, h1, h2⟩
          rw [slices_BinarySearch_int_int.l0, if_neg (by omega), if_pos (show (i : Int) < (l.length : Int) by omega), if_pos (show (0 : Int) ≤ (i : Int) by omega), if_pos (show (i : Int) < (l.length : Int) by omega), rd_nat l i hlt, if_neg hx]
          simp [slices_isNaN_int.f]
      · refine ⟨i, false, Ev.step (f := fun _ => some ((i : Int), false)) (fun k => ?_) (Ev.now _), hj, h1, h2⟩
        rw [slices_BinarySearch_int_int.l0, if_neg (by omega), if_neg (by omega)]
    | succ d ih =>
      intro i j hd hij hj h1 h2
      by_cases he : i = j
      · exact ih i j (by omega) hij hj h1 h2
      have hm : (i + j) / 2 < l.length := by omega
      have hmi : i ≤ (i + j) / 2 := by omega
      have hmj : (i + j) / 2 < j := by omega
      generalize hmid : (i + j) / 2 = m at hm hmi hmj
      have hw : ∀ k, slices_BinarySearch_int_int.l0 (k + 1) l n (l.length : Int) (i : Int) (j : Int) = if l[m] < n then slices_BinarySearch_int_int.l0 k l n (l.length : Int) ((m + 1 : Nat) : Int) (j : Int) else slices_BinarySearch_int_int.l0 k l n (l.length : Int) (i : Int) (m : Int) := by
        intro k
        rw [slices_BinarySearch_int_int.l0, if_pos (show (i : Int) < (j : Int) by omega), w_half i j (by omega), hmid, if_pos (show (0 : Int) ≤ (m : Int) by omega), if_pos (show (m : Int) < (l.length : Int) by omega), rd_nat l m hm, Less_is, Option.bind_some, w_inc m (by omega)]
        by_cases h : l[m] < n <;> simp [h]
      by_cases h : l[m] < n
      · obtain ⟨i', f, g1, g2, g3, g4⟩ := ih (m + 1) j (by omega) (by omega) hj (fun t ht htm => by have := hle t m ht hm (by omega); omega) h2
        exact ⟨i', f, Ev.step (fun k => by rw [hw, if_pos h]) g1, g2, g3, g4⟩
      · obtain ⟨i', f, g1, g2, g3, g4⟩ := ih i m (by omega) (by omega) (by omega) h1 (fun t ht htm => by have := hle m t hm ht htm; omega)
        exact ⟨i', f, Ev.step (fun k => by rw [hw, if_neg h]) g1, g2, g3, g4⟩
  exact key l.length 0 l.length (by omega) (by omega) (by omega) (fun t h ht => by omega) (fun t h ht => by omega)
theorem find_at (l : List Int) (n : Int) (i : Nat) (hi : i ≤ l.length) (h1 : ∀ t (h : t < l.length), t < i → l[t] < n) (h2 : ∀ t (h : t < l.length), i ≤ t → l[t] ≥ n) :
    seekS l n = if h : i < l.length then (l[i], true) else (0, false) := by
  have hnone : (l.take i).find? (fun x => decide (x ≥ n)) = none := by
    rw [List.find?_eq_none]
    intro x hx
    obtain ⟨j, hj, rfl⟩ := List.mem_iff_getElem.1 hx
    rw [List.length_take] at hj
    rw [List.getElem_take]
    have := h1 j (by omega) (by omega)
    simp; omega
  have hsp : l.find? (fun x => decide (x ≥ n)) = (l.drop i).find? (fun x => decide (x ≥ n)) := by
    rw [← List.take_append_drop i l, List.find?_append, hnone]; simp
  rw [seekS, hsp]
  by_cases h : i < l.length
  · rw [dif_pos h, drop_cons l i h, List.find?_cons_of_pos (by simpa using h2 i h (Nat.le_refl _))]
  · rw [dif_neg h, List.drop_of_length_le (by omega)]; rfl
theorem unp_sorted (b : List Int) (h : (unpackS b).2 = 0) : (unpackS b).1.Pairwise (· < ·) := by
  rcases unpackS_cases b with h1 | ⟨l, h1, h2, h3⟩
  · rw [h1] at h; cases h
  · rw [h1]; exact ((okV_OkV l).1 h2).1
theorem Seek_go (b : List Int) (n : Int) (hs : b.length ≤ 1000000) (hb : ∀ x ∈ b, 0 ≤ x ∧ x < 256) : Ev (fun k => posting_Seek.f k b n) (if (unpackS b).2 = 0 then seekS (unpackS b).1 n else (0, false)) := by
  refine Ev.congr (fun k => by rw [posting_Seek.f]) (Ev.bind (Unpack_go b hs hb) ?_)
  have hlen := unpackS_len b
  by_cases h : (unpackS b).2 = 0
  · rw [if_pos h]
    refine Ev.ite_pos h ?_
    obtain ⟨i, f, g1, g2, g3, g4⟩ := BS_go (unpackS b).1 n (by omega) ((unp_sorted b h).imp (fun h => Int.le_of_lt h))
    refine Ev.bind g1 ?_
    rw [find_at _ n i g2 g3 g4]
    by_cases hi : i < (unpackS b).1.length
    · rw [dif_pos hi]
      refine Ev.ite_neg (by show ¬ (i : Int) = ((unpackS b).1.length : Int); omega) (Ev.ite_pos (by show (0 : Int) ≤ (i : Int); omega) (Ev.ite_pos (by show (i : Int) < ((unpackS b).1.length : Int); omega) ?_))
      rw [show rd (unpackS b).1 ((i : Int), f).1 = (unpackS b).1[i] from rd_nat _ i hi]
      exact Ev.now _
    · rw [dif_neg hi]
      exact Ev.ite_pos (by show (i : Int) = ((unpackS b).1.length : Int); omega) (Ev.now _)
  · rw [if_neg h]
    exact Ev.ite_neg h (Ev.now _)
theorem rSeek_l0 (l : List Int) (n : Int) (hl : l.length ≤ 100000000) : ∀ d (i : Nat), i + d = l.length → Ev (fun k => codesearchref05_Seek.l0 k n l (i : Int)) (seekS (l.drop i) n) := by
  intro d
  induction d with
  | zero =>
    intro i hi
    rw [List.drop_of_length_le (by omega)]
    exact Ev.step (f := fun _ => some (0, false)) (fun k => by rw [codesearchref05_Seek.l0, if_neg (show ¬ (i : Int) < (l.length : Int) by omega)]) (Ev.now _)
  | succ d ih =>
    intro i hi
    have hlt : i < l.length := by omega
    rw [drop_cons l i hlt]
    by_cases h : l[i] ≥ n
    · rw [seekS, List.find?_cons_of_pos (by simpa using h)]
      exact Ev.step (f := fun _ => some (l[i], true)) (fun k => by rw [codesearchref05_Seek.l0, if_pos (show (i : Int) < (l.length : Int) by omega), if_pos (show (0 : Int) ≤ (i : Int) by omega), rd_nat l i hlt, if_pos h]) (Ev.now _)
    · rw [seekS, List.find?_cons_of_neg (by simpa using h)]
      exact Ev.step (fun k => by rw [codesearchref05_Seek.l0, if_pos (show (i : Int) < (l.length : Int) by omega), if_pos (show (0 : Int) ≤ (i : Int) by omega), rd_nat l i hlt, if_neg h, w_inc i (by omega)]) (ih (i + 1) (by omega))
theorem rSeek_go (b : List Int) (n : Int) (hs : b.length ≤ 1000000) (hb : ∀ x ∈ b, 0 ≤ x ∧ x < 256) : Ev (fun k => codesearchref05_Seek.f k b n) (if (unpackS b).2 = 0 then seekS (unpackS b).1 n else (0, false)) := by
  refine Ev.congr (fun k => by rw [codesearchref05_Seek.f]) (Ev.bind (rUnpack_go b hs hb) ?_)
  have hlen := unpackS_len b
  by_cases h : (unpackS b).2 = 0
  · rw [if_pos h]
    exact Ev.ite_pos h (rSeek_l0 (unpackS b).1 n (by omega) (unpackS b).1.length 0 (by omega))
  · rw [if_neg h]
    exact Ev.ite_neg h (Ev.now _)
end Go.Proofs.Ytknpmknkkofnjaa.Q
