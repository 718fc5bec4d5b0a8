/- Chapter 5: a packed list, the program's and the document's; Has. -/
import Derived.Test.YtknpmknkkofnjaaPQAlive05
import Derived.Test.YtknpmknkkofnjaaPQList03
import Derived.Test.YtknpmknkkofnjaaPx3
import Derived.Test.YtknpmknkkofnjaaPx11
namespace Go.Proofs.Ytknpmknkkofnjaa.Q
open Go.RowKit Go.Proofs.YtknpmknkkofnjaaW.PrintWords Go.Proofs.YtknpmknkkofnjaaW.PrintLast Go.Proofs.YtknpmknkkofnjaaW.PrintMore Go.Proofs.Ytknpmknkkofnjaa.P
set_option linter.unusedVariables false
set_option linter.unusedSimpArgs false
theorem okV_iff (l : List Int) : ∀ lo, okV lo l = true ↔ l.Pairwise (· < ·) ∧ ∀ x ∈ l, 0 ≤ x ∧ x ≤ 9999 ∧ lo < x := by
  induction l with
  | nil => intro lo; simp [okV]
  | cons a l ih =>
    intro lo
    rw [okV]
    simp only [Bool.and_eq_true, decide_eq_true_eq, ih, List.pairwise_cons, List.mem_cons]
    constructor
    · rintro ⟨⟨⟨h1, h2⟩, h3⟩, h4, h5⟩
      refine ⟨⟨fun x hx => (h5 x hx).2.2, h4⟩, fun x hx => ?_⟩
      rcases hx with rfl | hx
      · exact ⟨h1, h2, h3⟩
      · have := h5 x hx; omega
    · rintro ⟨⟨h1, h2⟩, h3⟩
      have h4 := h3 a (.inl rfl)
      exact ⟨⟨⟨h4.1, h4.2.1⟩, h4.2.2⟩, h2, fun x hx => ⟨(h3 x (.inr hx)).1, (h3 x (.inr hx)).2.1, h1 x hx⟩⟩
/-- A valid list. -/
def OkV (l : List Int) : Prop := l.Pairwise (· < ·) ∧ ∀ x ∈ l, 0 ≤ x ∧ x ≤ 9999
theorem okV_OkV (l : List Int) : okV (-1) l = true ↔ OkV l := by
  rw [okV_iff, OkV]
  constructor
  · rintro ⟨h1, h2⟩; exact ⟨h1, fun x hx => ⟨(h2 x hx).1, (h2 x hx).2.1⟩⟩
  · rintro ⟨h1, h2⟩; exact ⟨h1, fun x hx => ⟨(h2 x hx).1, (h2 x hx).2, by have := (h2 x hx).1; omega⟩⟩
theorem OkV.sub {l m : List Int} (h : OkV l) (hs : m.Sublist l) : OkV m := ⟨h.1.sublist hs, fun x hx => h.2 x (hs.subset hx)⟩
theorem okL_of {l : List Int} : ∀ lo, l.Pairwise (· < ·) → (∀ x ∈ l, lo < x) → okL lo l = true := by
  induction l with
  | nil => intro lo _ _; rfl
  | cons a l ih =>
    intro lo h1 h2
    have h3 := List.pairwise_cons.1 h1
    rw [okL, Bool.and_eq_true]
    exact ⟨by simpa using h2 a (by simp), ih a h3.2 h3.1⟩
theorem OkV.okL {l : List Int} (h : OkV l) : okL (-1) l = true := okL_of (-1) h.1 (fun x hx => by have := (h.2 x hx).1; omega)
/-- The list of the first block. -/
def blockB (l : List Int) : List Int := enc7 10 ((l.take 16).length : Int) ++ encL 0 (l.take 16)
/-- The blocks' heads, and their lists. -/
def packF : Nat → List Int → List Int × List Int
  | 0, _ => ([], [])
  | n + 1, l => if l.length = 0 then ([], []) else (enc7 10 ((l.take 16).getLastD 0) ++ enc7 10 ((blockB l).length : Int) ++ (packF n (l.drop 16)).1, blockB l ++ (packF n (l.drop 16)).2)
def packL (l : List Int) : List Int := enc7 10 (l.length : Int) ++ (packF l.length l).1 ++ (packF l.length l).2
theorem blockB_len (l : List Int) : (blockB l).length ≤ 170 := by
  have h1 := enc7_length 10 ((l.take 16).length : Int)
  have h2 := encL_length (l.take 16) 0
  have h3 : (l.take 16).length ≤ 16 := by rw [List.length_take]; omega
  rw [blockB, List.length_append]; omega
theorem packF_nil (n : Nat) : packF n [] = ([], []) := by cases n <;> rfl
theorem packF_len (n : Nat) : ∀ l, (packF n l).1.length ≤ 20 * n ∧ (packF n l).2.length ≤ 170 * n := by
  induction n with
  | zero => intro l; simp [packF]
  | succ n ih =>
    intro l
    have h1 := ih (l.drop 16)
    have h2 := blockB_len l
    have h3 := enc7_length 10 ((l.take 16).getLastD 0)
    have h4 := enc7_length 10 ((blockB l).length : Int)
    rw [packF]
    split
    · simp
    · simp only [List.length_append]; omega
theorem putL_ok {l : List Int} (h : OkV l) : putL [] (l.take 16) = (blockB l, 0) := by
  rw [putL, if_pos (h.sub (List.take_sublist _ _)).okL, List.nil_append]; rfl
theorem wf_of {l : List Int} (h : OkV l) : ∀ x ∈ l, -9223372036854775808 ≤ x ∧ x ≤ 9223372036854775807 := fun x hx => by have := h.2 x hx; omega
theorem last_take (l : List Int) (m : Nat) (hm : m = min 16 l.length) (h0 : 0 < l.length) : (l.take 16).getLastD 0 = l[m - 1]'(by omega) := by
  have hlen : (l.take 16).length = m := by rw [List.length_take]; omega
  rw [List.getLastD_eq_getLast?, List.getLast?_eq_getElem?, hlen, List.getElem?_take, if_pos (by omega), List.getElem?_eq_getElem (by omega)]
  rfl
theorem take_m (l : List Int) (m : Nat) (hm : m = min 16 l.length) : l.take m = l.take 16 ∧ l.drop m = l.drop 16 := by
  by_cases h : 16 ≤ l.length
  · have : m = 16 := by omega
    subst this; exact ⟨rfl, rfl⟩
  · have : m = l.length := by omega
    subst this
    rw [List.take_length, List.take_of_length_le (by omega), List.drop_length, List.drop_of_length_le (by omega)]
    exact ⟨rfl, rfl⟩
theorem Pack_l0 (n : Nat) : ∀ (l head body : List Int), l.length ≤ n → OkV l → head.length + 20 * n ≤ 1000000000 → body.length + 170 * n ≤ 1000000000 →
    Ev (fun k => posting_Pack.l0 k l head body) (head ++ (packF n l).1 ++ (body ++ (packF n l).2), 0) := by
  induction n with
  | zero =>
    intro l head body hl hv h1 h2
    obtain rfl : l = [] := List.eq_nil_of_length_eq_zero (by omega)
    refine Ev.step (f := fun _ => some (head ++ body, 0)) (fun k => ?_) ?_
    · rw [posting_Pack.l0, if_neg (by simp), if_pos (by omega)]
    · simpa [packF] using Ev.now _
  | succ n ih =>
    intro l head body hl hv h1 h2
    by_cases hz : l.length = 0
    · obtain rfl : l = [] := List.eq_nil_of_length_eq_zero hz
      refine Ev.step (f := fun _ => some (head ++ body, 0)) (fun k => ?_) ?_
      · rw [posting_Pack.l0, if_neg (by simp), if_pos (by omega)]
      · simpa [packF] using Ev.now _
    obtain ⟨m, hm⟩ : ∃ m, m = min 16 l.length := ⟨_, rfl⟩
    have hmn : mn 16 (l.length : Int) = (m : Int) := by rw [mn_of]; omega
    have hbl := blockB_len l
    have e1 := enc7_length 10 (l[m - 1]'(by omega))
    have e2 := enc7_length 10 ((blockB l).length : Int)
    have hx := hv.2 (l[m - 1]'(by omega)) (List.getElem_mem _)
    have hPL := PutList_go [] (l.take 16) (by rw [List.length_take]; simp; omega) (wf_of (hv.sub (List.take_sublist _ _)))
    rw [putL_ok hv] at hPL
    have hthis := ih (l.drop 16) (head ++ enc7 10 (l[m - 1]'(by omega)) ++ enc7 10 ((blockB l).length : Int)) (body ++ blockB l) (by rw [List.length_drop]; omega) (hv.sub (List.drop_sublist _ _)) (by simp only [List.length_append]; omega) (by simp only [List.length_append]; omega)
    rw [packF, if_neg hz, last_take l m hm (by omega)]
    refine Ev.step (f := fun k => (varint_PutList.f k ([] : List Int) (l.take 16)).bind fun bt => (if bt.2 = 0 then (if 0 ≤ (m : Int) - 1 then (if (m : Int) - 1 < (l.length : Int) then ((varint_Put.f head (rd l ((m : Int) - 1))).bind fun t178 => ((varint_Put.f t178 (bt.1.length : Int)).bind fun t181 => (if body.length + bt.1.length < 140737488355328 then (posting_Pack.l0 k (l.drop 16) t181 (body ++ bt.1)) else (none)))) else (none)) else (none)) else (some (([] : List Int), bt.2)))) (fun k => ?_) (Ev.bind hPL (Ev.ite_pos rfl ?_))
    · rw [posting_Pack.l0, if_pos (show (l.length : Int) > 0 by omega), hmn, if_pos (show (0 : Int) ≤ (m : Int) by omega), if_pos (show (m : Int) ≤ (l.length : Int) by omega), Int.toNat_natCast, (take_m l m hm).1, (take_m l m hm).2]
    · have hres : (head ++ enc7 10 (l[m - 1]'(by omega)) ++ enc7 10 ((blockB l).length : Int) ++ (packF n (l.drop 16)).1 ++ (body ++ blockB l ++ (packF n (l.drop 16)).2), (0 : Int)) = (head ++ (enc7 10 (l[m - 1]'(by omega)) ++ enc7 10 ((blockB l).length : Int) ++ (packF n (l.drop 16)).1) ++ (body ++ (blockB l ++ (packF n (l.drop 16)).2)), 0) := by simp only [List.append_assoc]
      rw [← hres]
      refine Ev.congr (fun k => ?_) hthis
      dsimp only
      rw [if_pos (show (0 : Int) ≤ (m : Int) - 1 by omega), if_pos (show (m : Int) - 1 < (l.length : Int) by omega), show (m : Int) - 1 = ((m - 1 : Nat) : Int) from by omega, rd_nat l (m - 1) (by omega),
        Put_go head _ (by omega) (by omega), Option.bind_some, show max (l[m - 1]'(by omega)) 0 = l[m - 1]'(by omega) from by omega, Put_go _ _ (by simp only [List.length_append]; omega) (by omega), Option.bind_some,
        show max ((blockB l).length : Int) 0 = ((blockB l).length : Int) from by omega, if_pos (by omega)]
theorem Pack_go (l : List Int) (hl : l.length ≤ 1000000) : Ev (fun k => posting_Pack.f k l) (if okV (-1) l = true then (packL l, 0) else ([], 1)) := by
  refine Ev.congr (fun k => by rw [posting_Pack.f]) (Ev.bind (Valid_is l (by omega)) ?_)
  by_cases h : okV (-1) l = true
  · rw [if_pos h]
    have e1 := enc7_length 10 (l.length : Int)
    refine Ev.ite_pos h (Ev.bind_eq (Put_go [] _ (by simp) (by omega)) ?_)
    rw [show max (l.length : Int) 0 = (l.length : Int) from by omega]
    have h1 := Pack_l0 l.length l ([] ++ enc7 10 (l.length : Int)) [] (by omega) ((okV_OkV l).1 h) (by simp; omega) (by simp; omega)
    simpa [packL] using h1
  · rw [if_neg h]
    exact Ev.ite_neg h (Ev.now _)
theorem w_add16 (i : Nat) (h : i ≤ 100000000) : wrap64 ((i : Int) + 16) = ((i + 16 : Nat) : Int) := by rw [w64 (by omega) (by omega)]; omega
theorem w_sub1 (a b : Nat) (h : a = b + 1) (h2 : a ≤ 100000000) : wrap64 ((a : Int) - 1) = (b : Int) := by rw [w64 (by omega) (by omega)]; omega
theorem rPack_l0 (l : List Int) (hv : OkV l) (hl : l.length ≤ 1000000) (n : Nat) : ∀ (i : Nat) (head body : List Int), l.length - i ≤ n → i ≤ l.length + 16 → head.length + 20 * n ≤ 1000000000 → body.length + 170 * n ≤ 1000000000 →
    Ev (fun k => codesearchref05_Pack.l0 k l head body (i : Int)) (head ++ (packF n (l.drop i)).1 ++ (body ++ (packF n (l.drop i)).2), 0) := by
  induction n with
  | zero =>
    intro i head body hi hi2 h1 h2
    rw [List.drop_of_length_le (by omega)]
    refine Ev.step (f := fun _ => some (head ++ body, 0)) (fun k => ?_) ?_
    · rw [codesearchref05_Pack.l0, if_neg (by omega), if_pos (by omega)]
    · simpa [packF] using Ev.now _
  | succ n ih =>
    intro i head body hi hi2 h1 h2
    by_cases hz : l.length ≤ i
    · rw [List.drop_of_length_le (by omega)]
      refine Ev.step (f := fun _ => some (head ++ body, 0)) (fun k => ?_) ?_
      · rw [codesearchref05_Pack.l0, if_neg (by omega), if_pos (by omega)]
      · simpa [packF] using Ev.now _
    have hdl : (l.drop i).length = l.length - i := by rw [List.length_drop]
    have hvd : OkV (l.drop i) := hv.sub (List.drop_sublist _ _)
    obtain ⟨m, hm⟩ : ∃ m, m = min 16 (l.drop i).length := ⟨_, rfl⟩
    have hlast : (l.drop i)[m - 1]'(by omega) = l[i + (m - 1)]'(by omega) := by rw [List.getElem_drop]
    have hbl := blockB_len (l.drop i)
    have e1 := enc7_length 10 (l[i + (m - 1)]'(by omega))
    have e2 := enc7_length 10 ((blockB (l.drop i)).length : Int)
    have hx := hv.2 (l[i + (m - 1)]'(by omega)) (List.getElem_mem _)
    have hPL := rPutList_go [] ((l.drop i).take 16) (by rw [List.length_take]; simp; omega) (wf_of (hvd.sub (List.take_sublist _ _)))
    rw [putL_ok hvd] at hPL
    have hthis := ih (i + 16) (head ++ enc7 10 (l[i + (m - 1)]'(by omega)) ++ enc7 10 ((blockB (l.drop i)).length : Int)) (body ++ blockB (l.drop i)) (by omega) (by omega) (by simp only [List.length_append]; omega) (by simp only [List.length_append]; omega)
    rw [packF, if_neg (by omega), last_take (l.drop i) m hm (by omega), hlast, List.drop_drop]
    have hrest : Ev (fun k => (codesearchref03_Put.f k head (l[i + (m - 1)]'(by omega))).bind fun t459 => ((codesearchref03_Put.f k t459 ((blockB (l.drop i)).length : Int)).bind fun t462 => (if body.length + (blockB (l.drop i)).length < 140737488355328 then (codesearchref05_Pack.l0 k l t462 (body ++ blockB (l.drop i)) ((i + 16 : Nat) : Int)) else (none))))
        (head ++ (enc7 10 (l[i + (m - 1)]'(by omega)) ++ enc7 10 ((blockB (l.drop i)).length : Int) ++ (packF n (l.drop (i + 16))).1) ++ (body ++ (blockB (l.drop i) ++ (packF n (l.drop (i + 16))).2)), 0) := by
      refine Ev.bind (rPut_go head _ (by omega) (by omega)) ?_
      rw [show max (l[i + (m - 1)]'(by omega)) 0 = l[i + (m - 1)]'(by omega) from by omega]
      refine Ev.bind (rPut_go _ _ (by simp only [List.length_append]; omega) (by omega)) ?_
      rw [show max ((blockB (l.drop i)).length : Int) 0 = ((blockB (l.drop i)).length : Int) from by omega]
      refine Ev.ite_pos (by omega) ?_
      simpa only [List.append_assoc] using hthis
    by_cases hbig : ((i + 16 : Nat) : Int) > (l.length : Int)
    · have hm' : i + (m - 1) = l.length - 1 := by omega
      have htk : (l.take ((l.length : Int)).toNat).drop ((i : Int)).toNat = (l.drop i).take 16 := by
        rw [Int.toNat_natCast, Int.toNat_natCast, List.take_length, List.take_of_length_le (by omega)]
      refine Ev.step (fun k => by rw [codesearchref05_Pack.l0, if_pos (show (i : Int) < (l.length : Int) by omega), w_add16 i (by omega), if_pos hbig, if_pos (show (0 : Int) ≤ (i : Int) by omega), if_pos (show (i : Int) ≤ (l.length : Int) by omega), if_pos (Int.le_refl _), htk]) (Ev.bind hPL ?_)
      refine Ev.congr (fun k => ?_) hrest
      dsimp only
      rw [w_sub1 l.length (i + (m - 1)) (by omega) (by omega), if_pos (by omega), if_pos (by omega), rd_nat l _ (by omega)]
    · have htk : (l.take (((i + 16 : Nat) : Int)).toNat).drop ((i : Int)).toNat = (l.drop i).take 16 := by
        rw [Int.toNat_natCast, Int.toNat_natCast, List.drop_take, show i + 16 - i = 16 from by omega]
      refine Ev.step (fun k => by rw [codesearchref05_Pack.l0, if_pos (show (i : Int) < (l.length : Int) by omega), w_add16 i (by omega), if_neg hbig, if_pos (show (0 : Int) ≤ (i : Int) by omega), if_pos (show (i : Int) ≤ ((i + 16 : Nat) : Int) by omega), if_pos (by omega), htk]) (Ev.bind hPL ?_)
      refine Ev.congr (fun k => ?_) hrest
      dsimp only
      rw [w_sub1 (i + 16) (i + (m - 1)) (by omega) (by omega), if_pos (by omega), if_pos (by omega), rd_nat l _ (by omega)]
theorem rPack_go (l : List Int) (hl : l.length ≤ 1000000) : Ev (fun k => codesearchref05_Pack.f k l) (if okV (-1) l = true then (packL l, 0) else ([], 1)) := by
  refine Ev.congr (fun k => by rw [codesearchref05_Pack.f]) (Ev.bind (rValid_is l (by omega)) ?_)
  by_cases h : okV (-1) l = true
  · rw [if_pos h]
    have e1 := enc7_length 10 (l.length : Int)
    refine Ev.ite_pos h (Ev.bind (rPut_go [] _ (by simp) (by omega)) ?_)
    rw [show max (l.length : Int) 0 = (l.length : Int) from by omega]
    have h1 := rPack_l0 l ((okV_OkV l).1 h) hl l.length 0 ([] ++ enc7 10 (l.length : Int)) [] (by omega) (by omega) (by simp; omega) (by simp; omega)
    simpa [packL] using h1
  · rw [if_neg h]
    exact Ev.ite_neg h (Ev.now _)
theorem Index_go (l : List Int) (n : Int) (hl : l.length ≤ 9223372036854775000) : ∃ j : Int, Ev (fun k => slices_Index_int_int.f k l n) j ∧ decide (j ≥ 0) = decide (n ∈ l) := by
  have key : ∀ d (i : Nat), i + d = l.length → ∃ j : Int, Ev (fun k => slices_Index_int_int.l0 k l n (l.length : Int) (i : Int)) j ∧ decide (j ≥ 0) = decide (n ∈ l.drop i) := by
    intro d
    induction d with
    | zero =>
      intro i hi
      refine ⟨-1, Ev.step (f := fun _ => some (-1)) (fun k => ?_) (Ev.now _), ?_⟩
      · rw [slices_Index_int_int.l0, if_neg (show ¬ (i : Int) < (l.length : Int) by omega)]
      · rw [List.drop_of_length_le (by omega)]; rfl
    | succ d ih =>
      intro i hi
      have hlt : i < l.length := by omega
      by_cases h : n = l[i]
      · refine ⟨(i : Int), Ev.step (f := fun _ => some (i : Int)) (fun k => ?_) (Ev.now _), ?_⟩
        · rw [slices_Index_int_int.l0, if_pos (show (i : Int) < (l.length : Int) by omega), if_pos (show (0 : Int) ≤ (i : Int) by omega), if_pos (show (i : Int) < (l.length : Int) by omega), rd_nat l i hlt, if_pos h]
        · rw [drop_cons l i hlt, decide_eq_decide]
          exact ⟨fun _ => by rw [h]; exact List.mem_cons_self, fun _ => by omega⟩
      · obtain ⟨j, h1, h2⟩ := ih (i + 1) (by omega)
        refine ⟨j, Ev.step (fun k => ?_) h1, ?_⟩
        · rw [slices_Index_int_int.l0, if_pos (show (i : Int) < (l.length : Int) by omega), if_pos (show (0 : Int) ≤ (i : Int) by omega), if_pos (show (i : Int) < (l.length : Int) by omega), rd_nat l i hlt, if_neg h, w64 (by omega) (by omega)]
          rfl
        · rw [h2, drop_cons l i hlt, decide_eq_decide, List.mem_cons]
          exact ⟨.inr, fun h3 => h3.resolve_left h⟩
  exact key l.length 0 (by omega)
theorem Has_go (l : List Int) (n : Int) (hl : l.length ≤ 1000000) : Ev (fun k => posting_Has.f k l n) (okV (-1) l && decide (n ∈ l)) := by
  refine Ev.congr (fun k => by rw [posting_Has.f]) (Ev.bind (Valid_is l (by omega)) ?_)
  by_cases h : okV (-1) l = true
  · obtain ⟨j, h1, h2⟩ := Index_go l n (by omega)
    rw [h, Bool.true_and]
    refine Ev.ite_pos rfl (Ev.bind (a := decide (n ∈ l)) (Ev.congr (fun k => by rw [slices_Contains_int_int.f]) (Ev.bind h1 ?_)) (Ev.now _))
    rw [h2]
    exact Ev.now _
  · rw [Bool.not_eq_true] at h
    rw [h, Bool.false_and]
    exact Ev.ite_neg (by decide) (Ev.now _)
theorem rHas_go (l : List Int) (n : Int) (hl : l.length ≤ 1000000) : Ev (fun k => codesearchref05_Has.f k l n) (okV (-1) l && decide (n ∈ l)) := by
  refine Ev.congr (fun k => by rw [codesearchref05_Has.f]) (Ev.bind (rValid_is l (by omega)) ?_)
  by_cases h : okV (-1) l = true
  · rw [h, Bool.true_and]
    exact Ev.ite_pos rfl (Ev.bind (In_go l n (by omega)) (Ev.now _))
  · rw [Bool.not_eq_true] at h
    rw [h, Bool.false_and]
    exact Ev.ite_neg (by decide) (Ev.now _)
end Go.Proofs.Ytknpmknkkofnjaa.Q
