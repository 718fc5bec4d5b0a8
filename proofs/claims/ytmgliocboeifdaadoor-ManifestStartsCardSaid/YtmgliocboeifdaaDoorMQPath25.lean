/- Paths: what the program's ValidPath, and the document's, answer; and Under. -/
import Derived.Test.YtmgliocboeifdaaDoorQGen
import Derived.Test.YtmgliocboeifdaaDoorMQSetS
import Derived.Lib.IndexLaws
import Derived.Test.YtmgliocboeifdaaDoorMx11
namespace Go.Proofs.YtmgliocboeifdaaDoor.Q
open Go.RowKit Go.Proofs.YtmgliocboeifdaaDoorW.PrintWords Go.Proofs.YtmgliocboeifdaaDoorW.PrintLast Go.Proofs.YtmgliocboeifdaaDoorW.PrintMore Go.Proofs.YtmgliocboeifdaaDoor.M
set_option linter.unusedVariables false
set_option linter.unusedSimpArgs false
theorem bl_len (s : ByteArray) : (bl s).length = s.size := rfl
theorem toList_bl (s : ByteArray) : s.toList = bl s := ByteArray.toList_eq s
theorem toList_eq_iff {s t : ByteArray} : s.toList = t.toList ↔ s = t := by
  rw [toList_bl, toList_bl]; exact ⟨bl_inj, fun h => by rw [h]⟩
theorem bl_ext (s : ByteArray) (a b : Nat) : bl (s.extract a b) = ((bl s).drop a).take (b - a) := by
  unfold bl
  rw [ByteArray.data_extract, Array.toList_extract, List.extract_eq_take_drop]
theorem bt_bl (s : ByteArray) (j : Nat) (h : j < (bl s).length) : bt s (j : Int) = (((bl s)[j]).toNat : Int) := by
  have h' : j < s.size := h
  rw [bt, dif_pos (show ((j : Int)).toNat < s.size from h')]
  rfl
def okc (c : UInt8) : Bool := (97 ≤ c && c ≤ 122) || (65 ≤ c && c ≤ 90) || (48 ≤ c && c ≤ 57) || c == 46 || c == 95 || c == 45
set_option maxRecDepth 100000 in
theorem letter_is (c : UInt8) : glob_letter.f (c.toNat : Int) = some (okc c) := by
  have key : ∀ n : Fin 256, glob_letter.f ((n.val : Nat) : Int) = some (okc (UInt8.ofNat n.val)) := by decide +kernel
  have h := key ⟨c.toNat, c.toNat_lt⟩
  rwa [UInt8.ofNat_toNat] at h
/-- A name between slashes. -/
def okname (p : List UInt8) : Bool := decide (1 ≤ p.length) && (decide (p.length ≤ 24) && (decide (p ≠ [46]) && (decide (p ≠ [46, 46]) && p.all okc)))
def split47 : List UInt8 → List (List UInt8)
  | [] => [[]]
  | c :: l => if c = 47 then [] :: split47 l else match split47 l with
    | [] => [[c]]
    | p :: ps => (c :: p) :: ps
theorem split_none : ∀ {l : List UInt8}, (47 : UInt8) ∉ l → split47 l = [l]
  | [], _ => rfl
  | c :: l, h => by
    rw [List.mem_cons, not_or] at h
    rw [split47, if_neg (fun e => h.1 e.symm), split_none h.2]
theorem split_at : ∀ {p : List UInt8} (r : List UInt8), (47 : UInt8) ∉ p → split47 (p ++ 47 :: r) = p :: split47 r
  | [], r, _ => by rw [List.nil_append, split47, if_pos rfl]
  | c :: p, r, h => by
    rw [List.mem_cons, not_or] at h
    rw [List.cons_append, split47, if_neg (fun e => h.1 e.symm), split_at r h.2]
def validP (s : ByteArray) : Bool := decide (s.size ≤ 60) && (split47 (bl s)).all okname
/-! ### Split -/
theorem idx_of {l : List UInt8} (h : 0 < l.count 47) : ∃ o : Nat, Lib.indexByte l 47 = (o : Int) ∧ o < l.length ∧ (47 : UInt8) ∉ l.take o ∧ l = l.take o ++ 47 :: l.drop (o + 1) := by
  have h1 := Lib.indexByte_ge l 47
  have hne : Lib.indexByte l 47 ≠ -1 := by
    intro e
    have h2 := Lib.indexByte_none e
    obtain ⟨i, hi, e2⟩ := List.mem_iff_getElem.1 (List.count_pos_iff.1 h)
    exact h2 i (by rw [List.getElem?_eq_getElem hi, e2])
  obtain ⟨o, ho⟩ : ∃ o : Nat, Lib.indexByte l 47 = (o : Int) := ⟨(Lib.indexByte l 47).toNat, by omega⟩
  obtain ⟨h2, h3⟩ := Lib.indexByte_some ho
  obtain ⟨hlt, he⟩ := List.getElem?_eq_some_iff.1 h2
  refine ⟨o, ho, hlt, fun hm => ?_, ?_⟩
  · obtain ⟨i, hi, e2⟩ := List.mem_iff_getElem.1 hm
    rw [List.length_take] at hi
    refine h3 i (by omega) ?_
    rw [List.getElem?_eq_getElem (by omega), ← e2, List.getElem_take]
  · rw [← he, ← List.drop_eq_getElem_cons hlt, List.take_append_drop]
theorem sepSize : ((⟨#[47]⟩ : ByteArray).size : Int) = 1 := rfl
theorem index47 (s : ByteArray) : strings_Index.f s ⟨#[47]⟩ = some (Lib.indexByte (bl s) 47) := by
  rw [strings_Index.f, if_pos (show (⟨#[47]⟩ : ByteArray).size = 1 from rfl)]; rfl
theorem gen_l0 : ∀ (d : Nat) (rest : ByteArray) (dn tl : List ByteArray), (bl rest).count 47 = d → tl.length = d + 1 → rest.size ≤ 100000 → dn.length + d ≤ 100000 →
    Ev (fun k => strings_genSplit.l0 k rest ⟨#[47]⟩ 0 ((dn.length + d : Nat) : Int) (dn ++ tl) (dn.length : Int)) (dn ++ (split47 (bl rest)).map ofB) := by
  intro d
  induction d with
  | zero =>
    intro rest dn tl hc ht hs hn
    have hno : (47 : UInt8) ∉ bl rest := by intro hm; have := List.count_pos_iff.2 hm; omega
    obtain ⟨v, rfl⟩ := List.length_eq_one_iff.1 ht
    refine Ev.step (f := fun _ => some (dn ++ (split47 (bl rest)).map ofB)) (fun k => ?_) (Ev.now _)
    have hlen : ((dn ++ [v]).length : Int) = (dn.length : Int) + 1 := by rw [List.length_append]; simp
    rw [strings_genSplit.l0, if_neg (by omega), if_pos (by omega), if_pos (by omega), w64 (by omega) (by omega), if_pos (by omega), if_pos (by omega), split_none hno]
    congr 1
    rw [Int.toNat_natCast, show ((dn.length : Int) + 1).toNat = dn.length + 1 by omega, List.set_append_right _ _ (Nat.le_refl _), Nat.sub_self, List.set_cons_zero, List.take_append, List.take_of_length_le (by omega)]
    simp [ofB_bl]
  | succ d ih =>
    intro rest dn tl hc ht hs hn
    obtain ⟨o, ho, hol, hno, hsp⟩ := idx_of (l := bl rest) (by omega)
    obtain ⟨v, tl', rfl⟩ : ∃ v tl', tl = v :: tl' := by cases tl with
      | nil => simp at ht
      | cons a b => exact ⟨a, b, rfl⟩
    rw [bl_len] at hol
    have hlen : ((dn ++ v :: tl').length : Int) = (dn.length : Int) + d + 2 := by rw [List.length_append]; simp at ht ⊢; omega
    have hr : bl (rest.extract (o + 1) rest.size) = (bl rest).drop (o + 1) := by
      rw [bl_ext, List.take_of_length_le]
      rw [List.length_drop, bl_len]
      omega
    have hp : bl (rest.extract 0 o) = (bl rest).take o := by rw [bl_ext, List.drop_zero, Nat.sub_zero]
    have hc2 : (bl (rest.extract (o + 1) rest.size)).count 47 = d := by
      rw [hr]
      have h1 := congrArg (List.count 47) hsp
      rw [List.count_append, List.count_cons_self, List.count_eq_zero_of_not_mem hno, hc] at h1
      omega
    have := ih (rest.extract (o + 1) rest.size) (dn ++ [rest.extract 0 o]) tl' hc2 (by simpa using ht) (by rw [ByteArray.size_extract]; omega) (by rw [List.length_append, List.length_singleton]; omega)
    rw [hr] at this
    refine Ev.step (fun k => ?_) (Ev.congr (fun k => rfl) (show Ev (fun k => strings_genSplit.l0 k (rest.extract (o + 1) rest.size) ⟨#[47]⟩ 0 ((dn.length + (d + 1) : Nat) : Int) ((dn ++ [rest.extract 0 o]) ++ tl') (((dn ++ [rest.extract 0 o]).length : Nat) : Int)) (dn ++ (split47 (bl rest)).map ofB) from ?_))
    · rw [strings_genSplit.l0, if_pos (by omega), index47, Option.bind_some, ho, if_neg (by omega), sepSize, w64 (by omega) (by omega), if_pos (by omega), if_pos (by omega), if_pos (by omega), if_pos (by omega), w64 (by omega) (by omega), if_pos (by omega), if_pos (by omega), w64 (by omega) (by omega)]
      rw [show ((o : Int) + 1).toNat = o + 1 by omega, show ((o : Int) + 0).toNat = o by omega, Int.toNat_natCast, List.set_append_right _ _ (Nat.le_refl _), Nat.sub_self, List.set_cons_zero]
      rw [show ((dn ++ [rest.extract 0 o]).length : Int) = (dn.length : Int) + 1 by rw [List.length_append]; simp]
      rw [List.append_assoc]; rfl
    · rw [List.length_append, List.length_singleton] at this ⊢
      rw [show dn.length + (d + 1) = dn.length + 1 + d by omega]
      have e : dn ++ (split47 (bl rest)).map ofB = (dn ++ [rest.extract 0 o]) ++ (split47 ((bl rest).drop (o + 1))).map ofB := by
        conv => lhs; rw [hsp]
        rw [split_at _ hno, List.map_cons, ← hp, ofB_bl, List.append_assoc]; rfl
      rw [e]
      exact this
theorem Split_is (s : ByteArray) (hs : s.size ≤ 60) : Ev (fun k => strings_Split.f k s ⟨#[47]⟩) ((split47 (bl s)).map ofB) := by
  have hc : (bl s).count 47 ≤ s.size := List.count_le_length
  refine Ev.congr (fun k => by rw [strings_Split.f, strings_genSplit.f, if_neg (by decide), if_neg (show ¬ (⟨#[47]⟩ : ByteArray).toList = [] by rw [ByteArray.toList_eq]; decide), if_pos (by decide)]) (Ev.bind (a := (split47 (bl s)).map ofB) ?_ (Ev.now _))
  have hcf : strings_Count.f s ⟨#[47]⟩ = some ((((bl s).count 47 : Nat)) : Int) := by rw [strings_Count.f, if_pos (show (⟨#[47]⟩ : ByteArray).size = 1 from rfl)]; rfl
  refine Ev.bind_eq hcf (Ev.step (fun k => by rw [strings_genSplit.j0]) ?_)
  have hm : mn (wrap64 ((((bl s).count 47 : Nat) : Int) + 1)) (wrap64 ((s.size : Int) + 1)) = (((bl s).count 47 : Nat) : Int) + 1 := by
    rw [w64 (by omega) (by omega), w64 (by omega) (by omega), mn_of]; omega
  rw [hm]
  refine Ev.ite_pos (by omega) (Ev.ite_pos (by omega) ?_)
  have := gen_l0 ((bl s).count 47) s [] (List.replicate ((bl s).count 47 + 1) ⟨#[]⟩) rfl (by simp) (by omega) (by simp; omega)
  rw [w64 (by omega) (by omega), show ((((bl s).count 47 : Nat) : Int) + 1).toNat = (bl s).count 47 + 1 by omega, show (((bl s).count 47 : Nat) : Int) + 1 - 1 = (((bl s).count 47 : Nat) : Int) by omega]
  simpa using this
/-! ### ValidPath -/
theorem Valid_l1 (p : ByteArray) (parts : List ByteArray) (i : Nat) (r : Bool) (hp : p.size ≤ 100000) (hi : i ≤ 100000) (hr : Ev (fun k => glob_ValidPath.l0 k parts (parts.length : Int) ((i + 1 : Nat) : Int)) r) :
    ∀ d (j : Nat), j + d = p.size → Ev (fun k => glob_ValidPath.l1 k p (j : Int) parts (parts.length : Int) (i : Int)) (((bl p).drop j).all okc && r) := by
  intro d
  induction d with
  | zero =>
    intro j hj
    rw [List.drop_of_length_le (by rw [bl_len]; omega)]
    refine Ev.step (fun k => ?_) (by simpa using hr)
    rw [glob_ValidPath.l1, if_pos (by omega), w64 (by omega) (by omega)]
    try rfl
  | succ d ih =>
    intro j hj
    have hlt : j < (bl p).length := by rw [bl_len]; omega
    rw [drop_cons _ j hlt, List.all_cons]
    refine Ev.step (fun k => by rw [glob_ValidPath.l1, if_neg (by omega), if_pos (by omega), if_pos (by omega), bt_bl p j hlt, letter_is, Option.bind_some]) ?_
    by_cases h : okc (bl p)[j] = true
    · rw [h, Bool.true_and]
      refine Ev.ite_pos (by trivial) (Ev.congr (fun k => ?_) (ih (j + 1) (by omega)))
      rw [w64 (by omega) (by omega)]; rfl
    · rw [Bool.eq_false_iff.2 h]
      rw [Bool.false_and]
      exact Ev.ite_neg (by simp) (Ev.now _)
theorem Valid_l0 (parts : List ByteArray) (hn : parts.length ≤ 100000) (hs : ∀ p ∈ parts, p.size ≤ 100000) : ∀ d (i : Nat), i + d = parts.length →
    Ev (fun k => glob_ValidPath.l0 k parts (parts.length : Int) (i : Int)) ((parts.drop i).all fun p => okname (bl p)) := by
  intro d
  induction d with
  | zero =>
    intro i hi
    rw [List.drop_of_length_le (by omega)]
    refine Ev.step (f := fun _ => some true) (fun k => ?_) (Ev.now _)
    rw [glob_ValidPath.l0, if_neg (by omega)]
  | succ d ih =>
    intro i hi
    have hlt : i < parts.length := by omega
    rw [drop_cons parts i hlt, List.all_cons]
    refine Ev.step (fun k => by rw [glob_ValidPath.l0, if_pos (show (i : Int) < (parts.length : Int) by omega), if_pos (by omega), if_pos (show (i : Int) < (parts.length : Int) by omega), rdOf_nat _ _ i hlt]) ?_
    have hps := hs parts[i] (List.getElem_mem _)
    generalize parts[i] = p at hps
    have hf : okname (bl p) = false → Ev (fun k => glob_ValidPath.j1 k p parts (parts.length : Int) (i : Int) true) (okname (bl p) && ((parts.drop (i + 1)).all fun p => okname (bl p))) := by
      intro e
      rw [e, Bool.false_and]
      refine Ev.step (f := fun _ => some false) (fun k => ?_) (Ev.now _)
      rw [glob_ValidPath.j1, if_pos rfl]
    rw [toList_bl]
    by_cases h1 : bl p = [46]
    · exact Ev.ite_pos h1 (hf (by rw [h1]; decide))
    refine Ev.ite_neg h1 ?_
    by_cases h2 : bl p = [46, 46]
    · exact Ev.ite_pos h2 (hf (by rw [h2]; decide))
    refine Ev.ite_neg h2 ?_
    by_cases h3 : (p.size : Int) < 1
    · exact Ev.ite_pos h3 (hf (by rw [okname, decide_eq_false (by rw [bl_len]; omega), Bool.false_and]))
    refine Ev.ite_neg h3 ?_
    by_cases h4 : (p.size : Int) > 24
    · rw [decide_eq_true h4]
      exact hf (by rw [okname, decide_eq_false (show ¬ (bl p).length ≤ 24 by rw [bl_len]; omega), Bool.false_and, Bool.and_false])
    rw [decide_eq_false h4]
    have e : okname (bl p) = (bl p).all okc := by
      rw [okname, decide_eq_true (show 1 ≤ (bl p).length by rw [bl_len]; omega), decide_eq_true (show (bl p).length ≤ 24 by rw [bl_len]; omega), decide_eq_true h1, decide_eq_true h2]; simp
    rw [e]
    refine Ev.step (fun k => by rw [glob_ValidPath.j1, if_neg (by decide)]) ?_
    exact Valid_l1 p parts i _ hps (by omega) (ih (i + 1) (by omega)) p.size 0 (by omega)
theorem split_len : ∀ (l : List UInt8), (split47 l).length = l.count 47 + 1
  | [] => rfl
  | c :: l => by
    have ih := split_len l
    rw [split47]
    by_cases h : c = 47
    · subst h
      rw [if_pos rfl, List.length_cons, ih, List.count_cons_self]
    · rw [if_neg h, List.count_cons_of_ne h]
      cases hsp : split47 l with
      | nil => rw [hsp] at ih; simp at ih
      | cons p ps => rw [hsp] at ih; simpa using ih
theorem split_size : ∀ (l : List UInt8), ∀ p ∈ split47 l, p.length ≤ l.length
  | [] => by simp [split47]
  | c :: l => by
    have ih := split_size l
    intro p hp
    rw [split47] at hp
    by_cases h : c = 47
    · rw [if_pos h, List.mem_cons] at hp
      rcases hp with rfl | hp
      · simp
      · have := ih p hp; rw [List.length_cons]; omega
    · rw [if_neg h] at hp
      cases hsp : split47 l with
      | nil => have := split_len l; rw [hsp] at this; simp at this
      | cons q qs =>
        rw [hsp] at hp ih
        rcases List.mem_cons.1 hp with rfl | hp
        · have := ih q List.mem_cons_self; rw [List.length_cons, List.length_cons]; omega
        · have := ih p (List.mem_cons_of_mem _ hp); rw [List.length_cons]; omega
theorem ValidPath_is (s : ByteArray) : Ev (fun k => glob_ValidPath.f k s) (validP s) := by
  by_cases h : (s.size : Int) > 60
  · refine Ev.congr (fun k => ?_) (Ev.now _)
    rw [glob_ValidPath.f, if_pos h, validP, decide_eq_false (by omega), Bool.false_and]
  · have hs : s.size ≤ 60 := by omega
    refine Ev.congr (fun k => by rw [glob_ValidPath.f, if_neg h]) (Ev.bind (Split_is s hs) ?_)
    have hl := split_len (bl s)
    have hc : (bl s).count 47 ≤ s.size := List.count_le_length
    have := Valid_l0 ((split47 (bl s)).map ofB) (by rw [List.length_map]; omega) (fun p hp => by
      obtain ⟨q, hq, rfl⟩ := List.mem_map.1 hp
      have := split_size _ q hq
      rw [bl_len] at this
      show q.length ≤ 100000
      omega) ((split47 (bl s)).map ofB).length 0 (by omega)
    rw [List.drop_zero, List.all_map] at this
    rw [validP, decide_eq_true hs, Bool.true_and]
    exact this
end Go.Proofs.YtmgliocboeifdaaDoor.Q
