import Derived.Test.YtobdkgoapcbipaaGreatDoorQGen
import Derived.Test.YtobdkgoapcbipaaGreatDoorJQReach
import Derived.Test.YtobdkgoapcbipaaGreatDoorJQSetS
import Derived.Sort.Walk0
import Derived.Test.YtobdkgoapcbipaaGreatDoorJx1
import Derived.Test.YtobdkgoapcbipaaGreatDoorJx14
import Derived.Test.YtobdkgoapcbipaaGreatDoorJx15
import Derived.Test.YtobdkgoapcbipaaGreatDoorJx6
import Derived.Test.YtobdkgoapcbipaaGreatDoorJQSet05
import Derived.Test.YtobdkgoapcbipaaGreatDoorJx7
import Derived.Test.YtobdkgoapcbipaaGreatDoorJx12
import Derived.Lib.IndexLaws
import Derived.Test.YtobdkgoapcbipaaGreatDoorJx4
import Derived.Test.YtobdkgoapcbipaaGreatDoorJx5
import Derived.Test.YtobdkgoapcbipaaGreatDoorJx13
import Derived.Test.YtobdkgoapcbipaaGreatDoorJx16
import Derived.Test.YtobdkgoapcbipaaGreatDoorJx8
import Derived.Test.YtobdkgoapcbipaaGreatDoorJx10
import Derived.Test.YtobdkgoapcbipaaGreatDoorJx9
import Derived.Test.YtobdkgoapcbipaaGreatDoorJx11
namespace Go.Proofs.YtobdkgoapcbipaaGreatDoor.Q
open Go.RowKit Go.Proofs.YtobdkgoapcbipaaGreatDoorW.PrintWords Go.Proofs.YtobdkgoapcbipaaGreatDoorW.PrintLast Go.Proofs.YtobdkgoapcbipaaGreatDoorW.PrintMore Go.Proofs.YtobdkgoapcbipaaGreatDoor.J
set_option linter.unusedVariables false
set_option linter.unusedSimpArgs false
abbrev GS := S36
theorem rdG_nat (l : List GS) (i : Nat) (h : i < l.length) : rd_T36 l (i : Int) = l[i] := by
 simp [rd_T36, List.getD_eq_getElem?_getD, List.getElem?_eq_getElem h]
theorem w1 (i : Nat) (h : i ≤ 9223372036854775000) : wrap64 ((i : Int) + 1) = ((i + 1 : Nat) : Int) := by rw [w64 (by omega) (by omega)]; omega
theorem at_is (l : List GS) (s : ByteArray) (hl : l.length ≤ 1000000) : Ev (fun k => r43_at.f k l s) (idxG s l 0) := by
 have key : ∀ d (i : Nat), i + d = l.length → Ev (fun k => r43_at.l0 k l s (i : Int)) (idxG s (l.drop i) i) := by
  intro d
  induction d with
  | zero =>
   intro i hi
   rw [List.drop_of_length_le (by omega)]
   exact Ev.step (f := fun _ => some (-1 : Int)) (fun k => by rw [r43_at.l0, if_neg (by omega)]) (Ev.now _)
  | succ d ih =>
   intro i hi
   have hlt : i < l.length := by omega
   rw [idxG_step s l i hlt]
   refine Ev.step (fun k => by rw [r43_at.l0, if_pos (show (i : Int) < (l.length : Int) by omega), if_pos (show (0 : Int) ≤ (i : Int) by omega), rdG_nat l i hlt, w1 i (by omega)]) ?_
   by_cases c : l[i].f0 = s
   ·rw [if_pos c]; exact Ev.ite_pos (toList_eq_.2 c) (Ev.now _)
   ·rw [if_neg c]; exact Ev.ite_neg (fun h => c (toList_eq_.1 h)) (ih (i + 1) (by omega))
 exact key l.length 0 (by omega)
theorem inText_is (l : List ByteArray) (s : ByteArray) (hl : l.length ≤ 9223372036854770000) : Ev (fun k => r43_inText.f k l s) (decide (s ∈ l)) := by
 have key : ∀ d (i : Nat), i + d = l.length → Ev (fun k => r43_inText.l0 k l s (i : Int)) (decide (s ∈ l.drop i)) := by
  intro d
  induction d with
  | zero =>
   intro i hi
   rw [List.drop_of_length_le (by omega)]
   exact Ev.step (f := fun _ => some false) (fun k => by rw [r43_inText.l0, if_neg (by omega)]) (by simpa using Ev.now false)
  | succ d ih =>
   intro i hi
   have hlt : i < l.length := by omega
   rw [List.drop_eq_getElem_cons hlt]
   refine Ev.step (fun k => by rw [r43_inText.l0, if_pos (show (i : Int) < (l.length : Int) by omega), if_pos (show (0 : Int) ≤ (i : Int) by omega), rdOf_nat _ l i hlt, w1 i (by omega)]) ?_
   by_cases c : l[i] = s
   ·rw [show decide (s ∈ l[i] :: l.drop (i + 1)) = true from decide_eq_true (by rw [c]; exact List.mem_cons_self)]
    exact Ev.ite_pos (toList_eq_.2 c) (Ev.now _)
   ·rw [show decide (s ∈ l[i] :: l.drop (i + 1)) = decide (s ∈ l.drop (i + 1)) from decide_eq_decide.2 ⟨fun h => (List.mem_cons.1 h).resolve_left (fun e => c e.symm), List.mem_cons_of_mem _⟩]
    exact Ev.ite_neg (fun h => c (toList_eq_.1 h)) (ih (i + 1) (by omega))
 have := key l.length 0 (by omega)
 rwa [List.drop_zero] at this
theorem toList_blG (s : ByteArray) : s.toList = bl s := by rw [ByteArray.toList_eq]; rfl
theorem less_iffG (a b : ByteArray) : (Op.bytesLess a.toList b.toList = true) ↔ bl a < bl b := by
 rw [Go.Proofs.bytesLess_eq, toList_blG, toList_blG, decide_eq_true_iff]
def putT (s : ByteArray) : List ByteArray → List ByteArray
 | [] => [s]
 | x :: t => if bl x < bl s then x :: putT s t else if bl s < bl x then s :: x :: t else x :: t
theorem putT_len (s : ByteArray) : ∀ l : List ByteArray, (putT s l).length ≤ l.length + 1
 | [] => Nat.le_refl _
 | x :: t => by
  rw [putT]
  have := putT_len s t
  split
  ·simp; exact this
  ·split <;> simp
theorem bl_tri (a b : ByteArray) (h1 : ¬ bl a < bl b) (h2 : ¬ bl b < bl a) : a = b := bl_inj (List.le_antisymm (List.not_lt.1 h2) (List.not_lt.1 h1))
theorem mem_putT (s : ByteArray) : ∀ (l : List ByteArray) (x : ByteArray), x ∈ putT s l ↔ x ∈ l ∨ x = s
 | [], x => by simp [putT]
 | y :: t, x => by
  rw [putT]
  by_cases c : bl y < bl s
  ·rw [if_pos c, List.mem_cons, mem_putT s t x, List.mem_cons, or_assoc]
  ·rw [if_neg c]
   by_cases c2 : bl s < bl y
   ·rw [if_pos c2, List.mem_cons, or_comm]
   ·rw [if_neg c2]
    have := bl_tri y s c c2
    subst this
    constructor
    ·exact .inl
    ·rintro (h | rfl)
     ·exact h
     ·exact List.mem_cons_self
theorem putT_inc (s : ByteArray) : ∀ (l : List ByteArray), Inc l → Inc (putT s l)
 | [], _ => List.pairwise_singleton _ _
 | y :: t, h => by
  obtain ⟨h1, h2⟩ := List.pairwise_cons.1 h
  rw [putT]
  by_cases c : bl y < bl s
  ·rw [if_pos c]
   refine List.pairwise_cons.2 ⟨fun x hx => ?_, putT_inc s t h2⟩
   rcases (mem_putT s t x).1 hx with hx | rfl
   ·exact h1 x hx
   ·exact c
  ·rw [if_neg c]
   by_cases c2 : bl s < bl y
   ·rw [if_pos c2]
    refine List.pairwise_cons.2 ⟨fun x hx => ?_, h⟩
    rcases List.mem_cons.1 hx with rfl | hx
    ·exact c2
    ·exact List.lt_trans c2 (h1 x hx)
   ·rw [if_neg c2]; exact h
theorem PutText_is (l : List ByteArray) (s : ByteArray) (hl : l.length ≤ 1000000000000) : Ev (fun k => r26_PutText.f k l s) (putT s l) := by
 have copy : ∀ d (i : Nat) (acc : List ByteArray), i + d = l.length → acc.length + d ≤ 2000000000000 → Ev (fun k => r26_PutText.l0 k l s acc true (i : Int)) (acc ++ l.drop i) := by
  intro d
  induction d with
  | zero =>
   intro i acc hi ha
   rw [List.drop_of_length_le (by omega), List.append_nil]
   exact Ev.step (f := fun _ => some acc) (fun k => by rw [r26_PutText.l0, if_neg (by omega), if_pos rfl]) (Ev.now _)
  | succ d ih =>
   intro i acc hi ha
   have hlt : i < l.length := by omega
   have := ih (i + 1) (acc ++ [l[i]]) (by omega) (by rw [List.length_append, List.length_singleton]; omega)
   rw [List.append_assoc, List.singleton_append, ← List.drop_eq_getElem_cons hlt] at this
   refine Ev.step (fun k => by rw [r26_PutText.l0, if_pos (show (i : Int) < (l.length : Int) by omega), if_pos rfl]) (Ev.step (fun k => ?_) this)
   rw [r26_PutText.j1, if_neg (by decide), if_pos (show (0 : Int) ≤ (i : Int) by omega), if_pos (show (i : Int) < (l.length : Int) by omega), if_pos (by omega), rdOf_nat _ l i hlt, w1 i (by omega)]
 have key : ∀ d (i : Nat) (acc : List ByteArray), i + d = l.length → acc.length + d ≤ 1500000000000 → Ev (fun k => r26_PutText.l0 k l s acc false (i : Int)) (acc ++ putT s (l.drop i)) := by
  intro d
  induction d with
  | zero =>
   intro i acc hi ha
   rw [List.drop_of_length_le (by omega), putT]
   exact Ev.step (f := fun _ => some (acc ++ [s])) (fun k => by rw [r26_PutText.l0, if_neg (by omega), if_neg (by decide), if_pos (by omega)]) (Ev.now _)
  | succ d ih =>
   intro i acc hi ha
   have hlt : i < l.length := by omega
   rw [List.drop_eq_getElem_cons hlt, putT]
   refine Ev.step (fun k => by rw [r26_PutText.l0, if_pos (show (i : Int) < (l.length : Int) by omega), if_neg (by decide), if_pos (show (0 : Int) ≤ (i : Int) by omega), rdOf_nat _ l i hlt]) ?_
   by_cases c : bl l[i] < bl s
   ·rw [if_pos c, (less_iffG _ _).2 c]
    have := ih (i + 1) (acc ++ [l[i]]) (by omega) (by rw [List.length_append, List.length_singleton]; omega)
    rw [List.append_assoc, List.singleton_append] at this
    refine Ev.step (fun k => ?_) this
    rw [Bool.not_true, r26_PutText.j1, if_neg (by decide), if_pos (show (0 : Int) ≤ (i : Int) by omega), if_pos (show (i : Int) < (l.length : Int) by omega), if_pos (by omega), rdOf_nat _ l i hlt, w1 i (by omega)]
   ·rw [if_neg c, show Op.bytesLess l[i].toList s.toList = false by rw [Bool.eq_false_iff]; exact fun h => c ((less_iffG _ _).1 h), Bool.not_false]
    refine Ev.step (fun k => by rw [r26_PutText.j1, if_pos rfl, if_pos (show (0 : Int) ≤ (i : Int) by omega), if_pos (show (i : Int) < (l.length : Int) by omega), rdOf_nat _ l i hlt, w1 i (by omega)]) ?_
    by_cases c2 : bl s < bl l[i]
    ·rw [if_pos c2]
     have := copy d (i + 1) (acc ++ [s] ++ [l[i]]) (by omega) (by simp only [List.length_append, List.length_singleton]; omega)
     rw [show acc ++ [s] ++ [l[i]] ++ l.drop (i + 1) = acc ++ s :: l[i] :: l.drop (i + 1) by simp] at this
     exact Ev.ite_pos ((less_iffG _ _).2 c2) (Ev.ite_pos (by omega) (Ev.ite_pos (by simp only [List.length_append, List.length_singleton]; omega) this))
    ·rw [if_neg c2]
     have := copy d (i + 1) (acc ++ [l[i]]) (by omega) (by simp only [List.length_append, List.length_singleton]; omega)
     rw [List.append_assoc, List.singleton_append] at this
     exact Ev.ite_neg (fun h => c2 ((less_iffG _ _).1 h)) (Ev.ite_pos (by omega) this)
 have := key l.length 0 [] (by omega) (by simp; omega)
 rwa [List.drop_zero, List.nil_append] at this
def putsT (l : List ByteArray) (ns : List ByteArray) : List ByteArray := ns.foldl (fun m s => putT s m) l
theorem putsT_len (ns : List ByteArray) : ∀ l, (putsT l ns).length ≤ l.length + ns.length := by
 induction ns with
 | nil => intro l; simp [putsT]
 | cons n ns ih =>
  intro l
  have h1 := ih (putT n l)
  have h2 := putT_len n l
  rw [putsT, List.foldl_cons]
  rw [putsT] at h1
  rw [List.length_cons]
  omega
theorem mem_putsT (ns : List ByteArray) : ∀ (l : List ByteArray) (x : ByteArray), x ∈ putsT l ns ↔ x ∈ l ∨ x ∈ ns := by
 induction ns with
 | nil => intro l x; simp [putsT]
 | cons n ns ih =>
  intro l x
  have h1 := ih (putT n l) x
  rw [putsT, List.foldl_cons]
  rw [putsT] at h1
  rw [h1, mem_putT, List.mem_cons, or_assoc]
theorem putsT_inc (ns : List ByteArray) : ∀ l, Inc l → Inc (putsT l ns) := by
 induction ns with
 | nil => intro l h; exact h
 | cons n ns ih => intro l h; rw [putsT, List.foldl_cons]; exact ih _ (putT_inc n l h)

structure Few (l : List GS) : Prop where
 len : l.length ≤ 40
 users : ∀ g ∈ l, g.f1.length ≤ 20
 groups : ∀ g ∈ l, g.f2.length ≤ 20
 name : ∀ g ∈ l, g.f0.size ≤ 100
 names : ∀ g ∈ l, ∀ s ∈ g.f2, s.size ≤ 100
theorem nodup_len {α : Type} [DecidableEq α] : ∀ {l U : List α}, l.Nodup → (∀ x ∈ l, x ∈ U) → l.length ≤ U.length
 | [], _, _, _ => Nat.zero_le _
 | a :: t, U, h, hs => by
  obtain ⟨h1, h2⟩ := List.nodup_cons.1 h
  have ha := hs a List.mem_cons_self
  have := nodup_len (U := U.erase a) h2 (fun x hx => (List.mem_erase_of_ne (fun e => h1 (by rw [← e]; exact hx))).2 (hs x (List.mem_cons_of_mem _ hx)))
  rw [List.length_erase_of_mem ha] at this
  have := List.length_pos_of_mem ha
  rw [List.length_cons]
  omega
theorem inc_nodup {l : List ByteArray} (h : Inc l) : l.Nodup := List.Pairwise.imp (fun h e => by rw [e] at h; exact List.lt_irrefl _ h) h
theorem idx_off (s : ByteArray) : ∀ (l : List GS) (o : Nat), (findG l s = none ∧ idxG s l o = -1) ∨ ∃ (i : Nat) (h : i < l.length), idxG s l o = ((o + i : Nat) : Int) ∧ findG l s = some l[i] ∧ l[i].f0 = s ∧ ∀ j (hj : j < l.length), j < i → l[j].f0 ≠ s
 | [], o => .inl ⟨rfl, rfl⟩
 | g :: t, o => by
  rw [idxG, findG, List.find?_cons]
  by_cases c : g.f0 = s
  ·rw [if_pos c, decide_eq_true c]
   exact .inr ⟨0, Nat.zero_lt_succ _, rfl, rfl, c, fun j _ h => absurd h (Nat.not_lt_zero _)⟩
  ·rw [if_neg c, decide_eq_false c]
   rcases idx_off s t (o + 1) with ⟨h1, h2⟩ | ⟨i, h, h1, h2, h3, h4⟩
   ·exact .inl ⟨h1, h2⟩
   ·refine .inr ⟨i + 1, Nat.succ_lt_succ h, by rw [h1]; congr 1; omega, h2, h3, fun j hj hji => ?_⟩
    cases j with
    | zero => exact c
    | succ j => exact h4 j (Nat.lt_of_succ_lt_succ hj) (by omega)
theorem idx_spec (l : List GS) (s : ByteArray) : (findG l s = none ∧ idxG s l 0 = -1) ∨ ∃ (i : Nat) (h : i < l.length), idxG s l 0 = (i : Int) ∧ findG l s = some l[i] ∧ l[i].f0 = s ∧ ∀ j (hj : j < l.length), j < i → l[j].f0 ≠ s := by
 have := idx_off s l 0
 simpa only [Nat.zero_add] using this
theorem subs_none {l : List GS} {s : ByteArray} (h : findG l s = none) : subsG l s = [] := by rw [subsG, h]; rfl
theorem subs_some {l : List GS} {s : ByteArray} {g : GS} (h : findG l s = some g) : subsG l s = g.f2 := by rw [subsG, h]; rfl
theorem find_mem {l : List GS} {s : ByteArray} {g : GS} (h : findG l s = some g) : g ∈ l ∧ g.f0 = s := ⟨List.mem_of_find?_eq_some h, by have := List.find?_some h; exact of_decide_eq_true this⟩
def allN (l : List GS) : List ByteArray := l.flatMap (·.f2)
theorem subs_all (l : List GS) (s n : ByteArray) (h : n ∈ subsG l s) : n ∈ allN l := by
 rcases h1 : findG l s with _ | g
 ·rw [subs_none h1] at h; cases h
 ·rw [subs_some h1] at h; exact List.mem_flatMap.2 ⟨g, (find_mem h1).1, h⟩
theorem flat_len {α β : Type} (f : α → List β) (c : Nat) : ∀ (l : List α), (∀ g ∈ l, (f g).length ≤ c) → (l.flatMap f).length ≤ c * l.length
 | [], _ => Nat.zero_le _
 | a :: t, h => by
  rw [List.flatMap_cons, List.length_append, List.length_cons, Nat.mul_succ]
  have := flat_len f c t (fun g hg => h g (List.mem_cons_of_mem _ hg))
  have := h a List.mem_cons_self
  omega
theorem allN_len {l : List GS} (h : Few l) : (allN l).length ≤ 800 := by
 have := flat_len (fun g : GS => g.f2) 20 l h.groups
 have := h.len
 rw [allN]
 omega
theorem subs_len {l : List GS} (h : Few l) (s : ByteArray) : (subsG l s).length ≤ 20 := by
 rcases h1 : findG l s with _ | g
 ·rw [subs_none h1]; exact Nat.zero_le _
 ·rw [subs_some h1]; exact h.groups g (find_mem h1).1
theorem subs_dom (l : List GS) (s : ByteArray) (h : subsG l s ≠ []) : s ∈ l.map (·.f0) := by
 rcases h1 : findG l s with _ | g
 ·exact absurd (subs_none h1) h
 ·obtain ⟨h2, h3⟩ := find_mem h1
  exact List.mem_map.2 ⟨g, h2, h3⟩
def belowT (l : List GS) (ns : List ByteArray) : List ByteArray := putsT ns (ns.flatMap (subsG l))
def insT (l : List GS) (s : ByteArray) : Nat → List ByteArray
 | 0 => putsT [] (subsG l s)
 | i + 1 => belowT l (insT l s i)
theorem insT_inc (l : List GS) (s : ByteArray) : ∀ i, Inc (insT l s i)
 | 0 => putsT_inc _ _ List.Pairwise.nil
 | i + 1 => putsT_inc _ _ (insT_inc l s i)
theorem insT_all (l : List GS) (s : ByteArray) : ∀ i x, x ∈ insT l s i → x ∈ allN l
 | 0, x, h => by
  rw [insT, mem_putsT] at h
  rcases h with h | h
  ·cases h
  ·exact subs_all l s x h
 | i + 1, x, h => by
  rw [insT, belowT, mem_putsT] at h
  rcases h with h | h
  ·exact insT_all l s i x h
  ·obtain ⟨n, _, h⟩ := List.mem_flatMap.1 h
   exact subs_all l n x h
theorem insT_len {l : List GS} (hf : Few l) (s : ByteArray) (i : Nat) : (insT l s i).length ≤ 800 := Nat.le_trans (nodup_len (inc_nodup (insT_inc l s i)) (insT_all l s i)) (allN_len hf)
def insideT (l : List GS) (s : ByteArray) : List ByteArray := insT l s l.length
theorem mem_insideT (l : List GS) (s x : ByteArray) : x ∈ insideT l s ↔ Reach (subsG l) s x := by
 have := steps_all (R := subsG l) (dom := l.map (·.f0)) (subs_dom l) (S := fun i x => x ∈ insT l s i) (s := s) (fun x => by rw [insT, mem_putsT]; simp) (fun i x => by
  show x ∈ insT l s (i + 1) ↔ _
  rw [insT, belowT, mem_putsT, List.mem_flatMap]) x
 rw [List.length_map] at this
 exact this
theorem below_l1 (l : List GS) (ns : List ByteArray) (i a : Nat) (ha : a < l.length) (r : List ByteArray) (hg : (l[a].f2).length ≤ 100) : ∀ d (j : Nat) (out : List ByteArray), j + d = (l[a].f2).length → out.length + d ≤ 1000000 →
  Ev (fun k => r43_below.l0 k l ns (putsT out (l[a].f2.drop j)) (wrap64 ((i : Int) + 1))) r → Ev (fun k => r43_below.l1 k l ns out (i : Int) (a : Int) (j : Int)) r := by
 intro d
 induction d with
 | zero =>
  intro j out hj ho hr
  rw [List.drop_of_length_le (by omega)] at hr
  exact Ev.step (fun k => by rw [r43_below.l1, if_pos (show (a : Int) ≥ 0 by omega), if_pos (show (0 : Int) ≤ (a : Int) by omega), if_pos (show (a : Int) < (l.length : Int) by omega), rdG_nat l a ha, if_neg (by omega)]; rfl) hr
 | succ d ih =>
  intro j out hj ho hr
  have hlt : j < (l[a].f2).length := by omega
  rw [List.drop_eq_getElem_cons hlt] at hr
  have hp := putT_len (l[a].f2)[j] out
  refine Ev.step (fun k => by rw [r43_below.l1, if_pos (show (a : Int) ≥ 0 by omega), if_pos (show (0 : Int) ≤ (a : Int) by omega), if_pos (show (a : Int) < (l.length : Int) by omega), rdG_nat l a ha, if_pos (by omega), if_pos (by omega), rdOf_nat _ _ j hlt, w1 j (by omega)]) ?_
  exact Ev.bind (PutText_is out _ (by omega)) (ih (j + 1) _ (by omega) (by omega) hr)
theorem below_is (l : List GS) (hf : Few l) (ns : List ByteArray) (hn : ns.length ≤ 800) : Ev (fun k => r43_below.f k l ns) (belowT l ns) := by
 have key : ∀ d (i : Nat) (out : List ByteArray), i + d = ns.length → out.length + 20 * d ≤ 900000 → Ev (fun k => r43_below.l0 k l ns out (i : Int)) (putsT out ((ns.drop i).flatMap (subsG l))) := by
  intro d
  induction d with
  | zero =>
   intro i out hi ho
   rw [List.drop_of_length_le (by omega)]
   exact Ev.step (f := fun _ => some out) (fun k => by rw [r43_below.l0, if_neg (by omega)]) (Ev.now _)
  | succ d ih =>
   intro i out hi ho
   have hlt : i < ns.length := by omega
   rw [List.drop_eq_getElem_cons hlt, List.flatMap_cons, putsT, List.foldl_append]
   have hs := subs_len hf ns[i]
   have hl := putsT_len (subsG l ns[i]) out
   have hr := ih (i + 1) (putsT out (subsG l ns[i])) (by omega) (by omega)
   refine Ev.step (fun k => by rw [r43_below.l0, if_pos (show (i : Int) < (ns.length : Int) by omega), if_pos (show (0 : Int) ≤ (i : Int) by omega), rdOf_nat _ ns i hlt]) (Ev.bind (at_is l ns[i] (by have := hf.len; omega)) ?_)
   rcases idx_spec l ns[i] with ⟨h1, h2⟩ | ⟨a, ha, h2, h1, h3, h4⟩
   ·rw [h2]
    rw [subs_none h1] at hr ⊢
    refine Ev.step (fun k => by rw [r43_below.l1, if_neg (by decide), w1 i (by omega)]; rfl) hr
   ·rw [h2]
    rw [subs_some h1] at hr ⊢ hs
    exact below_l1 l ns i a ha _ (by omega) _ 0 out (by rw [Nat.zero_add]) (by omega) (by rw [List.drop_zero, w1 i (by omega)]; exact hr)
 have := key ns.length 0 ns (by omega) (by omega)
 rw [List.drop_zero] at this
 exact this
theorem inside_is (l : List GS) (hf : Few l) (s : ByteArray) : Ev (fun k => r43_inside.f k l s) (insideT l s) := by
 have rest : ∀ d (i : Nat), i + d = l.length → Ev (fun k => r43_inside.l1 k l (insT l s i) (i : Int)) (insideT l s) := by
  intro d
  induction d with
  | zero =>
   intro i hi
   obtain rfl : i = l.length := by omega
   exact Ev.step (f := fun _ => some (insideT l s)) (fun k => by rw [r43_inside.l1, if_neg (by omega)]; rfl) (Ev.now _)
  | succ d ih =>
   intro i hi
   have := hf.len
   refine Ev.step (fun k => by rw [r43_inside.l1, if_pos (show (i : Int) < (l.length : Int) by omega), w1 i (by omega)]) (Ev.bind (below_is l hf _ (insT_len hf s i)) (ih (i + 1) (by omega)))
 have r0 : Ev (fun k => r43_inside.j1 k l (insT l s 0)) (insideT l s) := Ev.step (fun k => by rw [r43_inside.j1]; rfl) (rest l.length 0 (by omega))
 refine Ev.bind (at_is l s (by have := hf.len; omega)) ?_
 rcases idx_spec l s with ⟨h1, h2⟩ | ⟨a, ha, h2, h1, h3, h4⟩
 ·rw [h2]
  rw [insT, subs_none h1] at r0
  exact Ev.step (fun k => by rw [r43_inside.l0, if_neg (by decide)]; rfl) r0
 ·rw [h2]
  rw [insT, subs_some h1] at r0
  have hs := subs_len hf s
  rw [subs_some h1] at hs
  have key : ∀ d (j : Nat) (out : List ByteArray), j + d = (l[a].f2).length → out.length + d ≤ 1000000 → putsT out (l[a].f2.drop j) = putsT [] l[a].f2 → Ev (fun k => r43_inside.l0 k l out (a : Int) (j : Int)) (insideT l s) := by
   intro d
   induction d with
   | zero =>
    intro j out hj ho hr
    rw [List.drop_of_length_le (by omega)] at hr
    rw [show out = putsT [] l[a].f2 from hr]
    exact Ev.step (fun k => by rw [r43_inside.l0, if_pos (show (a : Int) ≥ 0 by omega), if_pos (show (0 : Int) ≤ (a : Int) by omega), if_pos (show (a : Int) < (l.length : Int) by omega), rdG_nat l a ha, if_neg (by omega)]) r0
   | succ d ih =>
    intro j out hj ho hr
    have hlt : j < (l[a].f2).length := by omega
    rw [List.drop_eq_getElem_cons hlt] at hr
    have hp := putT_len (l[a].f2)[j] out
    refine Ev.step (fun k => by rw [r43_inside.l0, if_pos (show (a : Int) ≥ 0 by omega), if_pos (show (0 : Int) ≤ (a : Int) by omega), if_pos (show (a : Int) < (l.length : Int) by omega), rdG_nat l a ha, if_pos (by omega), if_pos (by omega), rdOf_nat _ _ j hlt, w1 j (by omega)]) ?_
    exact Ev.bind (PutText_is out _ (by omega)) (ih (j + 1) _ (by omega) (by omega) hr)
  exact key _ 0 [] (by rw [Nat.zero_add]) (by simp; omega) (by rw [List.drop_zero])
theorem okGs_of {l : List GS} (hf : Few l) : okGs l = true := List.all_eq_true.2 fun g hg => List.all_eq_true.2 fun s hs => decide_eq_true (by have := hf.names g hg s hs; omega)
theorem contained_is (l : List GS) (hf : Few l) (s : ByteArray) : ∃ m, Ev (fun k => group_contained.f k l s) m ∧ (∀ x, x ∈ m ↔ Reach (subsG l) s x) ∧ m.Nodup ∧ m.length ≤ 800 := by
 obtain ⟨m, h1, h2, h3, h4, h5⟩ := visitG_all (R := subsG l) (U := allN l) (subs_all l) ((allN l).length + 1) s (Nat.lt_succ_self _)
 have hl := allN_len hf
 refine ⟨m, Ev.of (fun k => ?_) (k := (allN l).length + 1) ?_, h2, h3, by omega⟩
 ·exact group_contained.mono _ _ k
 ·show group_contained.f ((allN l).length + 1) l s = some m
  rw [group_contained.f, if_pos ⟨by have := hf.len; omega, okGs_of hf⟩, h1, Option.bind_some, if_pos (by omega)]

def domG (l : List GS) (s : ByteArray) : Bool := (findG l s).isSome
def NoLoop (l : List GS) : Prop := ∀ s, ¬ Reach (subsG l) s s
def deepT (l : List GS) (s : ByteArray) : Nat := hgt (subsG l) (domG l) (allN l) s
theorem deepT_eq {l : List GS} (hn : NoLoop l) (s : ByteArray) : deepT l s = if domG l s then ((subsG l s).map (deepT l)).foldl max 0 + 1 else 0 := hgt_eq (subs_all l) hn s
theorem foldmax_le (c : Nat) : ∀ (l : List Nat) (a : Nat), a ≤ c → (∀ x ∈ l, x ≤ c) → l.foldl max a ≤ c
 | [], a, h, _ => h
 | x :: t, a, h, hs => foldmax_le c t (max a x) (Nat.max_le.2 ⟨h, hs x List.mem_cons_self⟩) (fun y hy => hs y (List.mem_cons_of_mem _ hy))
theorem hgtG_le {α : Type} (R : α → List α) (dom : α → Bool) : ∀ (k : Nat) (s : α), hgtG R dom k s ≤ k
 | 0, _ => Nat.le_refl _
 | k + 1, s => by
  rw [hgtG]
  split
  ·refine Nat.succ_le_succ (foldmax_le k _ 0 (Nat.zero_le _) (fun x hx => ?_))
   obtain ⟨n, _, rfl⟩ := List.mem_map.1 hx
   exact hgtG_le R dom k n
  ·exact Nat.zero_le _
theorem deepT_le {l : List GS} (hf : Few l) (s : ByteArray) : deepT l s ≤ 801 := Nat.le_trans (hgtG_le _ _ _ _) (Nat.succ_le_succ (allN_len hf))
def Known (l : List GS) (A : ByteArray → Prop) (d : MP) : Prop := ∀ n v, mget d n = some v → v = (deepT l n : Int) ∨ A n
def leftM (l : List GS) (d : MP) : Nat := ((l.map (·.f0)).filter fun x => (mget d x).isNone).length
def Kept (d d' : MP) : Prop := ∀ n, (mget d n).isSome = true → (mget d' n).isSome = true
theorem Kept.trans {a b c : MP} (h : Kept a b) (h2 : Kept b c) : Kept a c := fun n hn => h2 n (h n hn)
theorem Kept.put (d : MP) (s : ByteArray) (v : Int) : Kept d (mput d s v) := fun n hn => by
 rw [mget_put]; split
 ·rfl
 ·exact hn
theorem filter_sub {α : Type} (p q : α → Bool) (hpq : ∀ x, p x = true → q x = true) : ∀ L : List α, (L.filter p).length ≤ (L.filter q).length
 | [] => Nat.le_refl _
 | a :: t => by
  have ih := filter_sub p q hpq t
  by_cases hp : p a = true
  ·rw [List.filter_cons_of_pos hp, List.filter_cons_of_pos (hpq a hp)]; exact Nat.succ_le_succ ih
  ·rw [List.filter_cons_of_neg hp]
   by_cases hq : q a = true
   ·rw [List.filter_cons_of_pos hq, List.length_cons]; omega
   ·rw [List.filter_cons_of_neg hq]; exact ih
theorem filter_lt {α : Type} (p q : α → Bool) (hpq : ∀ x, p x = true → q x = true) (s : α) (hs : p s = false) (hq : q s = true) : ∀ L : List α, s ∈ L → (L.filter p).length < (L.filter q).length
 | [], h => by cases h
 | a :: t, h => by
  have h0 := filter_sub p q hpq t
  by_cases e : p a = true
  ·rw [List.filter_cons_of_pos e, List.filter_cons_of_pos (hpq a e)]
   refine Nat.succ_lt_succ (filter_lt p q hpq s hs hq t ?_)
   rcases List.mem_cons.1 h with rfl | h
   ·rw [hs] at e; cases e
   ·exact h
  ·rw [List.filter_cons_of_neg e]
   by_cases e2 : q a = true
   ·rw [List.filter_cons_of_pos e2, List.length_cons]; omega
   ·rw [List.filter_cons_of_neg e2]
    refine filter_lt p q hpq s hs hq t ?_
    rcases List.mem_cons.1 h with rfl | h
    ·exact absurd hq e2
    ·exact h
theorem leftM_le {l : List GS} {d d' : MP} (h : Kept d d') : leftM l d' ≤ leftM l d := filter_sub _ _ (fun x hx => by
 rcases e : mget d x with _ | v
 ·rfl
 ·have := h x (by rw [e]; rfl)
  rw [Option.isNone_iff_eq_none.1 hx] at this; cases this) _
theorem leftM_put {l : List GS} {d : MP} {s : ByteArray} {v : Int} (hs : s ∈ l.map (·.f0)) (hm : mget d s = none) : leftM l (mput d s v) < leftM l d :=
 filter_lt _ _ (fun x hx => by
  rw [mget_put] at hx
  split at hx
  ·cases hx
  ·exact hx) s (by rw [mget_put, if_pos rfl]; rfl) (by rw [hm]; rfl) _ hs
structure Seen (l : List GS) (A : ByteArray → Prop) (d d' : MP) : Prop where
 known : Known l A d'
 kept : Kept d d'
 len : d'.length + 2 * leftM l d' ≤ d.length + 2 * leftM l d
theorem eachD_spec {l : List GS} (hf : Few l) {v : MP → ByteArray → Option (MP × Int)} {A : ByteArray → Prop}
  : ∀ (ns : List ByteArray) (d : MP) (mo : Nat), (∀ n ∈ ns, ∀ d, Known l A d → ∃ d', v d n = some (d', (deepT l n : Int)) ∧ Seen l A d d') → Known l A d →
   ∃ d', eachD v d (mo : Int) ns = some (d', (((ns.map (deepT l)).foldl max mo : Nat) : Int)) ∧ Seen l A d d'
 | [], d, mo, _, hk => ⟨d, rfl, hk, fun _ h => h, Nat.le_refl _⟩
 | n :: ns, d, mo, hv, hk => by
  obtain ⟨d1, e1, s1⟩ := hv n List.mem_cons_self d hk
  obtain ⟨d2, e2, s2⟩ := eachD_spec hf ns d1 (max mo (deepT l n)) (fun m hm => hv m (List.mem_cons_of_mem _ hm)) s1.known
  refine ⟨d2, ?_, s2.known, s1.kept.trans s2.kept, Nat.le_trans s2.len s1.len⟩
  rw [eachD, e1, Option.bind_some, mx_of, show max (mo : Int) (deepT l n : Int) = ((max mo (deepT l n) : Nat) : Int) by omega, e2]
  rfl
theorem visitD_spec {l : List GS} (hf : Few l) (hn : NoLoop l) : ∀ (k : Nat) (A : ByteArray → Prop) (d : MP) (s : ByteArray), rankG (subsG l) (allN l) s + 1 < k → ¬ A s → (∀ a, A a → Reach (subsG l) a s) → Known l A d →
  ∃ d', visitD l k d s = some (d', (deepT l s : Int)) ∧ Seen l A d d'
 | 0, _, _, _, h, _, _, _ => absurd h (Nat.not_lt_zero _)
 | k + 1, A, d, s, h, hA, hAs, hk => by
  rw [visitD]
  by_cases hd : (findG l s).isSome = true
  ·rw [if_pos hd]
   rcases hm : mget d s with _ | v
   ·rw [show (none : Option Int).isSome = false from rfl, if_neg (by decide)]
    obtain ⟨g, hg⟩ := Option.isSome_iff_exists.1 hd
    obtain ⟨hg1, hg2⟩ := find_mem hg
    have hs : s ∈ l.map (·.f0) := List.mem_map.2 ⟨g, hg1, hg2⟩
    have hk1 : Known l (fun a => A a ∨ a = s) (mput d s 0) := fun n v hv => by
     rw [mget_put] at hv
     by_cases e : s = n
     ·exact .inr (.inr e.symm)
     ·rw [if_neg e] at hv
      exact (hk n v hv).imp id .inl
    obtain ⟨d1, e1, s1⟩ := eachD_spec hf (v := visitD l k) (A := fun a => A a ∨ a = s) (subsG l s) (mput d s 0) 0 (fun n hns d hk => by
     have hr := rankG_lt (subs_all l) hn hns
     refine visitD_spec hf hn k (fun a => A a ∨ a = s) d n (by omega) ?_ ?_ hk
     ·rintro (h1 | rfl)
      ·exact hn n (.more hns (hAs n h1))
      ·exact hn _ (.one hns)
     ·rintro a (h1 | rfl)
      ·exact .more hns (hAs a h1)
      ·exact .one hns) hk1
    have hv : deepT l s = ((subsG l s).map (deepT l)).foldl max 0 + 1 := by rw [deepT_eq hn, if_pos (show domG l s = true from hd)]
    have hb := deepT_le hf s
    have e1' : eachD (visitD l k) (mput d s 0) 0 (subsG l s) = some (d1, ((((subsG l s).map (deepT l)).foldl max 0 : Nat) : Int)) := e1
    rw [e1', Option.bind_some]
    have hi : ((((subsG l s).map (deepT l)).foldl max 0 : Nat) : Int) + 1 = (deepT l s : Int) := by rw [hv]; rfl
    refine ⟨mput d1 s (deepT l s), ?_, ?_, (Kept.put d s 0).trans (s1.kept.trans (Kept.put d1 s _)), ?_⟩
    ·show (if (0 : Int) ≤ ((((subsG l s).map (deepT l)).foldl max 0 : Nat) : Int) ∧ ((((subsG l s).map (deepT l)).foldl max 0 : Nat) : Int) < 1000000000 then some (mput d1 s (((((subsG l s).map (deepT l)).foldl max 0 : Nat) : Int) + 1), ((((subsG l s).map (deepT l)).foldl max 0 : Nat) : Int) + 1) else none) = _
     rw [if_pos (by omega), hi]
    ·intro n v hv'
     rw [mget_put] at hv'
     by_cases e : s = n
     ·rw [if_pos e] at hv'; subst e; exact .inl (Option.some.inj hv').symm
     ·rw [if_neg e] at hv'
      rcases s1.known n v hv' with h1 | h1 | h1
      ·exact .inl h1
      ·exact .inr h1
      ·exact absurd h1.symm e
    ·have h1 := s1.len
     have h2 := leftM_put (v := 0) hs hm
     have h3 := leftM_le (l := l) (Kept.put d1 s (deepT l s))
     have h4 : (mput d1 s (deepT l s : Int)).length = d1.length + 1 := rfl
     have h5 : (mput d s 0).length = d.length + 1 := rfl
     omega
   ·rw [show (some v).isSome = true from rfl, if_pos rfl]
    refine ⟨d, ?_, hk, fun _ h => h, Nat.le_refl _⟩
    rcases hk s v hm with h1 | h1
    ·rw [Option.getD_some, h1]
    ·exact absurd h1 hA
  ·rw [if_neg hd]
   refine ⟨d, ?_, hk, fun _ h => h, Nat.le_refl _⟩
   rw [deepT_eq hn, if_neg (show ¬ domG l s = true from hd)]
   rfl
theorem Depth_is (l : List GS) (hf : Few l) (hn : NoLoop l) (s : ByteArray) (hs : s.size ≤ 1000) : Ev (fun k => group_Depth.f k l s) (deepT l s : Int) := by
 have hr := rankG_le (R := subsG l) (U := allN l) s
 obtain ⟨d', e, h1⟩ := visitD_spec hf hn ((allN l).length + 2) (fun _ => False) [] s (by omega) id (fun _ h => h.elim) (fun _ _ h => by cases h)
 have hl := h1.len
 have h2 : leftM l [] ≤ l.length := by
  have := List.length_filter_le (fun x => (mget [] x).isNone) (l.map (·.f0))
  rw [List.length_map] at this
  exact this
 have h3 := hf.len
 rw [List.length_nil] at hl
 refine Ev.of (fun k => group_Depth.mono _ _ k) (k := (allN l).length + 2) ?_
 show group_Depth.f ((allN l).length + 2) l s = _
 rw [group_Depth.f, if_pos ⟨⟨by omega, okGs_of hf⟩, decide_eq_true (by omega)⟩, e, Option.bind_some, if_pos (by show d'.length ≤ 1000000; omega)]
theorem rdepth_is (l : List GS) (hf : Few l) (hn : NoLoop l) : ∀ (r : Nat) (s : ByteArray), rankG (subsG l) (allN l) s < r → Ev (fun k => r43_depth.f k l s) (deepT l s : Int)
 | 0, _, h => absurd h (Nat.not_lt_zero _)
 | r + 1, s, h => by
  rw [deepT_eq hn]
  have hl := hf.len
  refine Ev.step (fun k => by rw [r43_depth.f]) (Ev.bind (at_is l s (by omega)) ?_)
  rcases idx_spec l s with ⟨h1, h2⟩ | ⟨a, ha, h2, h1, h3, h4⟩
  ·rw [h2, if_neg (by rw [domG, h1]; decide)]
   exact Ev.ite_pos (by decide) (Ev.now _)
  ·rw [h2, if_pos (by rw [domG, h1]; rfl), subs_some h1]
   refine Ev.ite_neg (by omega) ?_
   have hg := subs_len hf s
   rw [subs_some h1] at hg
   have key : ∀ d (j mo : Nat), j + d = (l[a].f2).length → mo ≤ 801 → Ev (fun k => r43_depth.l0 k l (a : Int) (mo : Int) (j : Int)) (((((l[a].f2).drop j).map (deepT l)).foldl max mo + 1 : Nat) : Int) := by
    intro d
    induction d with
    | zero =>
     intro j mo hj hm
     rw [List.drop_of_length_le (by omega)]
     exact Ev.step (f := fun _ => some ((mo + 1 : Nat) : Int)) (fun k => by rw [r43_depth.l0, if_pos (show (0 : Int) ≤ (a : Int) by omega), if_pos (show (a : Int) < (l.length : Int) by omega), rdG_nat l a ha, if_neg (by omega), w1 mo (by omega)]) (Ev.now _)
    | succ d ih =>
     intro j mo hj hm
     have hlt : j < (l[a].f2).length := by omega
     rw [List.drop_eq_getElem_cons hlt, List.map_cons, List.foldl_cons]
     have hb := deepT_le hf (l[a].f2)[j]
     have hi := ih (j + 1) (max mo (deepT l (l[a].f2)[j])) (by omega) (by omega)
     have hr := rankG_lt (subs_all l) hn (s := s) (n := (l[a].f2)[j]) (by rw [subs_some h1]; exact List.getElem_mem _)
     refine Ev.step (fun k => by rw [r43_depth.l0, if_pos (show (0 : Int) ≤ (a : Int) by omega), if_pos (show (a : Int) < (l.length : Int) by omega), rdG_nat l a ha, if_pos (by omega), if_pos (by omega), rdOf_nat _ _ j hlt, w1 j (by omega)]) (Ev.bind (rdepth_is l hf hn r _ (by omega)) ?_)
     by_cases c : deepT l (l[a].f2)[j] > mo
     ·rw [Nat.max_eq_right (by omega)] at hi ⊢
      exact Ev.ite_pos (by omega) hi
     ·rw [Nat.max_eq_left (by omega)] at hi ⊢
      exact Ev.ite_neg (by omega) hi
   have := key _ 0 0 (by rw [Nat.zero_add]) (Nat.zero_le _)
   rw [List.drop_zero] at this
   exact this
theorem rDepth_is (l : List GS) (hf : Few l) (hn : NoLoop l) (s : ByteArray) : Ev (fun k => r43_depth.f k l s) (deepT l s : Int) := rdepth_is l hf hn _ s (Nat.lt_succ_self _)

theorem Same_self (l : List Int) (hl : l.length ≤ 9223372036854775000) : Ev (fun k => r05_Same.f k l l) true := by
 have key : ∀ d (i : Nat), i + d = l.length → Ev (fun k => r05_Same.l0 k l l (i : Int)) true := by
  intro d
  induction d with
  | zero =>
   intro i hi
   refine Ev.step (f := fun _ => some true) (fun k => ?_) (Ev.now _)
   rw [r05_Same.l0, if_neg (show ¬ (i : Int) < (l.length : Int) by omega)]
  | succ d ih =>
   intro i hi
   refine Ev.step (fun k => ?_) (ih (i + 1) (by omega))
   rw [r05_Same.l0, if_pos (show (i : Int) < (l.length : Int) by omega), if_pos (show (0 : Int) ≤ (i : Int) by omega), if_pos (show (i : Int) < (l.length : Int) by omega), if_pos rfl, w64 (by omega) (by omega)]
   rfl
 exact Ev.congr (fun k => by rw [r05_Same.f, if_pos rfl]; rfl) (key l.length 0 (by omega))
theorem In_go (l : List Int) (n : Int) (hl : l.length ≤ 9223372036854775000) : Ev (fun k => r05_In.f k l n) (decide (n ∈ l)) := by
 have key : ∀ d (i : Nat), i + d = l.length → Ev (fun k => r05_In.l0 k l n (i : Int)) (decide (n ∈ l.drop i)) := by
  intro d
  induction d with
  | zero =>
   intro i hi
   rw [List.drop_of_length_le (by omega)]
   refine Ev.step (f := fun _ => some false) (fun k => ?_) (Ev.now _)
   rw [r05_In.l0, if_neg (show ¬ (i : Int) < (l.length : Int) by omega)]
  | succ d ih =>
   intro i hi
   have hlt : i < l.length := by omega
   rw [drop_cons l i hlt]
   by_cases h : l[i] = n
   ·refine Ev.step (f := fun _ => some (decide (n ∈ l[i] :: l.drop (i + 1)))) (fun k => ?_) (Ev.now _)
    rw [r05_In.l0, if_pos (show (i : Int) < (l.length : Int) by omega), if_pos (show (0 : Int) ≤ (i : Int) by omega), rd_nat l i hlt, if_pos h]
    simp [h]
   ·rw [show decide (n ∈ l[i] :: l.drop (i + 1)) = decide (n ∈ l.drop (i + 1)) from decide_eq_decide.2 (by rw [List.mem_cons]; exact ⟨fun h1 => h1.resolve_left (fun e => h e.symm), .inr⟩)]
    refine Ev.step (fun k => ?_) (ih (i + 1) (by omega))
    rw [r05_In.l0, if_pos (show (i : Int) < (l.length : Int) by omega), if_pos (show (0 : Int) ≤ (i : Int) by omega), rd_nat l i hlt, if_neg h, w64 (by omega) (by omega)]
    rfl
 exact key l.length 0 (by omega)
def andS (a b : List Int) : List Int := (uniq a).filter fun x => (uniq b).contains x
def minusS (a b : List Int) : List Int := (uniq a).filter fun x => !(uniq b).contains x
def orS (a b : List Int) : List Int := uniq (a ++ b)
def okV (lo : Int) : List Int → Bool
 | [] => true
 | x :: l => decide (0 ≤ x) && decide (x ≤ 9999) && decide (lo < x) && okV x l
def prevV (l : List Int) (i : Nat) : Int := if i = 0 then -1 else l.getD (i - 1) 0
def ins : List Int → Int → List Int
 | [], n => [n]
 | a :: l, n => if a ≥ n then (if a > n then n :: a :: l else a :: l) else a :: ins l n
def insAll (p : Int → Bool) : List Int → List Int → List Int
 | out, [] => out
 | out, x :: l => insAll p (if p x = true then ins out x else out) l
theorem bl_len (s : ByteArray) : (bl s).length = s.size := rfl
theorem toList_bl (s : ByteArray) : s.toList = bl s := ByteArray.toList_eq s
theorem bl_ext (s : ByteArray) (a b : Nat) : bl (s.extract a b) = ((bl s).drop a).take (b - a) := by
 unfold bl
 rw [ByteArray.data_extract, Array.toList_extract, List.extract_eq_take_drop]
theorem bt_bl (s : ByteArray) (j : Nat) (h : j < (bl s).length) : bt s (j : Int) = (((bl s)[j]).toNat : Int) := by
 have h' : j < s.size := h
 rw [bt, dif_pos (show ((j : Int)).toNat < s.size from h')]
 rfl
def okc (c : UInt8) : Bool := (97 ≤ c && c ≤ 122) || (65 ≤ c && c ≤ 90) || (48 ≤ c && c ≤ 57) || c == 46 || c == 95 || c == 45
set_option maxRecDepth 100000 in
theorem letter_is (c : UInt8) : glob_letter.f (c.toNat : Int) = some (okc c) := by
 have key : ∀ n : Fin 256, glob_letter.f ((n.val : Nat) : Int) = some (okc (UInt8.ofNat n.val)) := by decide +kernel
 have h := key ⟨c.toNat, c.toNat_lt⟩
 rwa [UInt8.ofNat_toNat] at h
def okname (p : List UInt8) : Bool := decide (1 ≤ p.length) && (decide (p.length ≤ 24) && (decide (p ≠ [46]) && (decide (p ≠ [46, 46]) && p.all okc)))
def split47 : List UInt8 → List (List UInt8)
 | [] => [[]]
 | c :: l => if c = 47 then [] :: split47 l else match split47 l with
  | [] => [[c]]
  | p :: ps => (c :: p) :: ps
theorem split_none : ∀ {l : List UInt8}, (47 : UInt8) ∉ l → split47 l = [l]
 | [], _ => rfl
 | c :: l, h => by
  rw [List.mem_cons, not_or] at h
  rw [split47, if_neg (fun e => h.1 e.symm), split_none h.2]
theorem split_at : ∀ {p : List UInt8} (r : List UInt8), (47 : UInt8) ∉ p → split47 (p ++ 47 :: r) = p :: split47 r
 | [], r, _ => by rw [List.nil_append, split47, if_pos rfl]
 | c :: p, r, h => by
  rw [List.mem_cons, not_or] at h
  rw [List.cons_append, split47, if_neg (fun e => h.1 e.symm), split_at r h.2]
def validP (s : ByteArray) : Bool := decide (s.size ≤ 60) && (split47 (bl s)).all okname
theorem idx_of {l : List UInt8} (h : 0 < l.count 47) : ∃ o : Nat, Lib.indexByte l 47 = (o : Int) ∧ o < l.length ∧ (47 : UInt8) ∉ l.take o ∧ l = l.take o ++ 47 :: l.drop (o + 1) := by
 have h1 := Lib.indexByte_ge l 47
 have hne : Lib.indexByte l 47 ≠ -1 := by
  intro e
  have h2 := Lib.indexByte_none e
  obtain ⟨i, hi, e2⟩ := List.mem_iff_getElem.1 (List.count_pos_iff.1 h)
  exact h2 i (by rw [List.getElem?_eq_getElem hi, e2])
 obtain ⟨o, ho⟩ : ∃ o : Nat, Lib.indexByte l 47 = (o : Int) := ⟨(Lib.indexByte l 47).toNat, by omega⟩
 obtain ⟨h2, h3⟩ := Lib.indexByte_some ho
 obtain ⟨hlt, he⟩ := List.getElem?_eq_some_iff.1 h2
 refine ⟨o, ho, hlt, fun hm => ?_, ?_⟩
 ·obtain ⟨i, hi, e2⟩ := List.mem_iff_getElem.1 hm
  rw [List.length_take] at hi
  refine h3 i (by omega) ?_
  rw [List.getElem?_eq_getElem (by omega), ← e2, List.getElem_take]
 ·rw [← he, ← List.drop_eq_getElem_cons hlt, List.take_append_drop]
theorem sepSize : ((⟨#[47]⟩ : ByteArray).size : Int) = 1 := rfl
theorem index47 (s : ByteArray) : strings_Index.f s ⟨#[47]⟩ = some (Lib.indexByte (bl s) 47) := by
 rw [strings_Index.f, if_pos (show (⟨#[47]⟩ : ByteArray).size = 1 from rfl)]; rfl
theorem gen_l0 : ∀ (d : Nat) (rest : ByteArray) (dn tl : List ByteArray), (bl rest).count 47 = d → tl.length = d + 1 → rest.size ≤ 100000 → dn.length + d ≤ 100000 →
  Ev (fun k => strings_genSplit.l0 k rest ⟨#[47]⟩ 0 ((dn.length + d : Nat) : Int) (dn ++ tl) (dn.length : Int)) (dn ++ (split47 (bl rest)).map ofB) := by
 intro d
 induction d with
 | zero =>
  intro rest dn tl hc ht hs hn
  have hno : (47 : UInt8) ∉ bl rest := by intro hm; have := List.count_pos_iff.2 hm; omega
  obtain ⟨v, rfl⟩ := List.length_eq_one_iff.1 ht
  refine Ev.step (f := fun _ => some (dn ++ (split47 (bl rest)).map ofB)) (fun k => ?_) (Ev.now _)
  have hlen : ((dn ++ [v]).length : Int) = (dn.length : Int) + 1 := by rw [List.length_append]; simp
  rw [strings_genSplit.l0, if_neg (by omega), if_pos (by omega), if_pos (by omega), w64 (by omega) (by omega), if_pos (by omega), if_pos (by omega), split_none hno]
  congr 1
  rw [Int.toNat_natCast, show ((dn.length : Int) + 1).toNat = dn.length + 1 by omega, List.set_append_right _ _ (Nat.le_refl _), Nat.sub_self, List.set_cons_zero, List.take_append, List.take_of_length_le (by omega)]
  simp [ofB_bl]
 | succ d ih =>
  intro rest dn tl hc ht hs hn
  obtain ⟨o, ho, hol, hno, hsp⟩ := idx_of (l := bl rest) (by omega)
  obtain ⟨v, tl', rfl⟩ : ∃ v tl', tl = v :: tl' := by cases tl with
   | nil => simp at ht
   | cons a b => exact ⟨a, b, rfl⟩
  rw [bl_len] at hol
  have hlen : ((dn ++ v :: tl').length : Int) = (dn.length : Int) + d + 2 := by rw [List.length_append]; simp at ht ⊢; omega
  have hr : bl (rest.extract (o + 1) rest.size) = (bl rest).drop (o + 1) := by
   rw [bl_ext, List.take_of_length_le]
   rw [List.length_drop, bl_len]
   omega
  have hp : bl (rest.extract 0 o) = (bl rest).take o := by rw [bl_ext, List.drop_zero, Nat.sub_zero]
  have hc2 : (bl (rest.extract (o + 1) rest.size)).count 47 = d := by
   rw [hr]
   have h1 := congrArg (List.count 47) hsp
   rw [List.count_append, List.count_cons_self, List.count_eq_zero_of_not_mem hno, hc] at h1
   omega
  have := ih (rest.extract (o + 1) rest.size) (dn ++ [rest.extract 0 o]) tl' hc2 (by simpa using ht) (by rw [ByteArray.size_extract]; omega) (by rw [List.length_append, List.length_singleton]; omega)
  rw [hr] at this
  refine Ev.step (fun k => ?_) (Ev.congr (fun k => rfl) (show Ev (fun k => strings_genSplit.l0 k (rest.extract (o + 1) rest.size) ⟨#[47]⟩ 0 ((dn.length + (d + 1) : Nat) : Int) ((dn ++ [rest.extract 0 o]) ++ tl') (((dn ++ [rest.extract 0 o]).length : Nat) : Int)) (dn ++ (split47 (bl rest)).map ofB) from ?_))
  ·rw [strings_genSplit.l0, if_pos (by omega), index47, Option.bind_some, ho, if_neg (by omega), sepSize, w64 (by omega) (by omega), if_pos (by omega), if_pos (by omega), if_pos (by omega), if_pos (by omega), w64 (by omega) (by omega), if_pos (by omega), if_pos (by omega), w64 (by omega) (by omega)]
   rw [show ((o : Int) + 1).toNat = o + 1 by omega, show ((o : Int) + 0).toNat = o by omega, Int.toNat_natCast, List.set_append_right _ _ (Nat.le_refl _), Nat.sub_self, List.set_cons_zero]
   rw [show ((dn ++ [rest.extract 0 o]).length : Int) = (dn.length : Int) + 1 by rw [List.length_append]; simp]
   rw [List.append_assoc]; rfl
  ·rw [List.length_append, List.length_singleton] at this ⊢
   rw [show dn.length + (d + 1) = dn.length + 1 + d by omega]
   have e : dn ++ (split47 (bl rest)).map ofB = (dn ++ [rest.extract 0 o]) ++ (split47 ((bl rest).drop (o + 1))).map ofB := by
    conv => lhs; rw [hsp]
    rw [split_at _ hno, List.map_cons, ← hp, ofB_bl, List.append_assoc]; rfl
   rw [e]
   exact this
theorem Split_is (s : ByteArray) (hs : s.size ≤ 60) : Ev (fun k => strings_Split.f k s ⟨#[47]⟩) ((split47 (bl s)).map ofB) := by
 have hc : (bl s).count 47 ≤ s.size := List.count_le_length
 refine Ev.congr (fun k => by rw [strings_Split.f, strings_genSplit.f, if_neg (by decide), if_neg (show ¬ (⟨#[47]⟩ : ByteArray).toList = [] by rw [ByteArray.toList_eq]; decide), if_pos (by decide)]) (Ev.bind (a := (split47 (bl s)).map ofB) ?_ (Ev.now _))
 have hcf : strings_Count.f s ⟨#[47]⟩ = some ((((bl s).count 47 : Nat)) : Int) := by rw [strings_Count.f, if_pos (show (⟨#[47]⟩ : ByteArray).size = 1 from rfl)]; rfl
 refine Ev.bind_eq hcf (Ev.step (fun k => by rw [strings_genSplit.j0]) ?_)
 have hm : mn (wrap64 ((((bl s).count 47 : Nat) : Int) + 1)) (wrap64 ((s.size : Int) + 1)) = (((bl s).count 47 : Nat) : Int) + 1 := by
  rw [w64 (by omega) (by omega), w64 (by omega) (by omega), mn_of]; omega
 rw [hm]
 refine Ev.ite_pos (by omega) (Ev.ite_pos (by omega) ?_)
 have := gen_l0 ((bl s).count 47) s [] (List.replicate ((bl s).count 47 + 1) ⟨#[]⟩) rfl (by simp) (by omega) (by simp; omega)
 rw [w64 (by omega) (by omega), show ((((bl s).count 47 : Nat) : Int) + 1).toNat = (bl s).count 47 + 1 by omega, show (((bl s).count 47 : Nat) : Int) + 1 - 1 = (((bl s).count 47 : Nat) : Int) by omega]
 simpa using this
theorem Valid_l1 (p : ByteArray) (parts : List ByteArray) (i : Nat) (r : Bool) (hp : p.size ≤ 100000) (hi : i ≤ 100000) (hr : Ev (fun k => glob_ValidPath.l0 k parts (parts.length : Int) ((i + 1 : Nat) : Int)) r) :
  ∀ d (j : Nat), j + d = p.size → Ev (fun k => glob_ValidPath.l1 k p (j : Int) parts (parts.length : Int) (i : Int)) (((bl p).drop j).all okc && r) := by
 intro d
 induction d with
 | zero =>
  intro j hj
  rw [List.drop_of_length_le (by rw [bl_len]; omega)]
  refine Ev.step (fun k => ?_) (by simpa using hr)
  rw [glob_ValidPath.l1, if_pos (by omega), w64 (by omega) (by omega)]
  try rfl
 | succ d ih =>
  intro j hj
  have hlt : j < (bl p).length := by rw [bl_len]; omega
  rw [drop_cons _ j hlt, List.all_cons]
  refine Ev.step (fun k => by rw [glob_ValidPath.l1, if_neg (by omega), if_pos (by omega), if_pos (by omega), bt_bl p j hlt, letter_is, Option.bind_some]) ?_
  by_cases h : okc (bl p)[j] = true
  ·rw [h, Bool.true_and]
   refine Ev.ite_pos (by trivial) (Ev.congr (fun k => ?_) (ih (j + 1) (by omega)))
   rw [w64 (by omega) (by omega)]; rfl
  ·rw [Bool.eq_false_iff.2 h]
   rw [Bool.false_and]
   exact Ev.ite_neg (by simp) (Ev.now _)
theorem Valid_l0 (parts : List ByteArray) (hn : parts.length ≤ 100000) (hs : ∀ p ∈ parts, p.size ≤ 100000) : ∀ d (i : Nat), i + d = parts.length →
  Ev (fun k => glob_ValidPath.l0 k parts (parts.length : Int) (i : Int)) ((parts.drop i).all fun p => okname (bl p)) := by
 intro d
 induction d with
 | zero =>
  intro i hi
  rw [List.drop_of_length_le (by omega)]
  refine Ev.step (f := fun _ => some true) (fun k => ?_) (Ev.now _)
  rw [glob_ValidPath.l0, if_neg (by omega)]
 | succ d ih =>
  intro i hi
  have hlt : i < parts.length := by omega
  rw [drop_cons parts i hlt, List.all_cons]
  refine Ev.step (fun k => by rw [glob_ValidPath.l0, if_pos (show (i : Int) < (parts.length : Int) by omega), if_pos (by omega), if_pos (show (i : Int) < (parts.length : Int) by omega), rdOf_nat _ _ i hlt]) ?_
  have hps := hs parts[i] (List.getElem_mem _)
  generalize parts[i] = p at hps
  have hf : okname (bl p) = false → Ev (fun k => glob_ValidPath.j1 k p parts (parts.length : Int) (i : Int) true) (okname (bl p) && ((parts.drop (i + 1)).all fun p => okname (bl p))) := by
   intro e
   rw [e, Bool.false_and]
   refine Ev.step (f := fun _ => some false) (fun k => ?_) (Ev.now _)
   rw [glob_ValidPath.j1, if_pos rfl]
  rw [toList_bl]
  by_cases h1 : bl p = [46]
  ·exact Ev.ite_pos h1 (hf (by rw [h1]; decide))
  refine Ev.ite_neg h1 ?_
  by_cases h2 : bl p = [46, 46]
  ·exact Ev.ite_pos h2 (hf (by rw [h2]; decide))
  refine Ev.ite_neg h2 ?_
  by_cases h3 : (p.size : Int) < 1
  ·exact Ev.ite_pos h3 (hf (by rw [okname, decide_eq_false (by rw [bl_len]; omega), Bool.false_and]))
  refine Ev.ite_neg h3 ?_
  by_cases h4 : (p.size : Int) > 24
  ·rw [decide_eq_true h4]
   exact hf (by rw [okname, decide_eq_false (show ¬ (bl p).length ≤ 24 by rw [bl_len]; omega), Bool.false_and, Bool.and_false])
  rw [decide_eq_false h4]
  have e : okname (bl p) = (bl p).all okc := by
   rw [okname, decide_eq_true (show 1 ≤ (bl p).length by rw [bl_len]; omega), decide_eq_true (show (bl p).length ≤ 24 by rw [bl_len]; omega), decide_eq_true h1, decide_eq_true h2]; simp
  rw [e]
  refine Ev.step (fun k => by rw [glob_ValidPath.j1, if_neg (by decide)]) ?_
  exact Valid_l1 p parts i _ hps (by omega) (ih (i + 1) (by omega)) p.size 0 (by omega)
theorem split_len : ∀ (l : List UInt8), (split47 l).length = l.count 47 + 1
 | [] => rfl
 | c :: l => by
  have ih := split_len l
  rw [split47]
  by_cases h : c = 47
  ·subst h
   rw [if_pos rfl, List.length_cons, ih, List.count_cons_self]
  ·rw [if_neg h, List.count_cons_of_ne h]
   cases hsp : split47 l with
   | nil => rw [hsp] at ih; simp at ih
   | cons p ps => rw [hsp] at ih; simpa using ih
theorem split_size : ∀ (l : List UInt8), ∀ p ∈ split47 l, p.length ≤ l.length
 | [] => by simp [split47]
 | c :: l => by
  have ih := split_size l
  intro p hp
  rw [split47] at hp
  by_cases h : c = 47
  ·rw [if_pos h, List.mem_cons] at hp
   rcases hp with rfl | hp
   ·simp
   ·have := ih p hp; rw [List.length_cons]; omega
  ·rw [if_neg h] at hp
   cases hsp : split47 l with
   | nil => have := split_len l; rw [hsp] at this; simp at this
   | cons q qs =>
    rw [hsp] at hp ih
    rcases List.mem_cons.1 hp with rfl | hp
    ·have := ih q List.mem_cons_self; rw [List.length_cons, List.length_cons]; omega
    ·have := ih p (List.mem_cons_of_mem _ hp); rw [List.length_cons]; omega
theorem ValidPath_is (s : ByteArray) : Ev (fun k => glob_ValidPath.f k s) (validP s) := by
 by_cases h : (s.size : Int) > 60
 ·refine Ev.congr (fun k => ?_) (Ev.now _)
  rw [glob_ValidPath.f, if_pos h, validP, decide_eq_false (by omega), Bool.false_and]
 ·have hs : s.size ≤ 60 := by omega
  refine Ev.congr (fun k => by rw [glob_ValidPath.f, if_neg h]) (Ev.bind (Split_is s hs) ?_)
  have hl := split_len (bl s)
  have hc : (bl s).count 47 ≤ s.size := List.count_le_length
  have := Valid_l0 ((split47 (bl s)).map ofB) (by rw [List.length_map]; omega) (fun p hp => by
   obtain ⟨q, hq, rfl⟩ := List.mem_map.1 hp
   have := split_size _ q hq
   rw [bl_len] at this
   show q.length ≤ 100000
   omega) ((split47 (bl s)).map ofB).length 0 (by omega)
  rw [List.drop_zero, List.all_map] at this
  rw [validP, decide_eq_true hs, Bool.true_and]
  exact this

theorem rLD_is (c : UInt8) : r02_Letter.f (c.toNat : Int) = some ((97 ≤ c && c ≤ 122) || (65 ≤ c && c ≤ 90)) ∧ r02_Digit.f (c.toNat : Int) = some (48 ≤ c && c ≤ 57) := by
 have key : ∀ n : Fin 256, r02_Letter.f ((n.val : Nat) : Int) = some ((97 ≤ UInt8.ofNat n.val && UInt8.ofNat n.val ≤ 122) || (65 ≤ UInt8.ofNat n.val && UInt8.ofNat n.val ≤ 90)) ∧ r02_Digit.f ((n.val : Nat) : Int) = some (48 ≤ UInt8.ofNat n.val && UInt8.ofNat n.val ≤ 57) := by decide +kernel
 have h := key ⟨c.toNat, c.toNat_lt⟩
 rwa [UInt8.ofNat_toNat] at h
theorem u8_eq (c : UInt8) (n : Nat) (h : n < 256) : ((c.toNat : Int) = (n : Int)) ↔ c = UInt8.ofNat n := by
 constructor
 ·intro e
  have e2 : c.toNat = n := by omega
  rw [← e2, UInt8.ofNat_toNat]
 ·intro e
  rw [e, UInt8.toNat_ofNat']
  omega
theorem rname_l0 (p : ByteArray) (hp : p.size ≤ 100000) : ∀ d (j : Nat), j + d = p.size → Ev (fun k => r02_name.l0 k p (j : Int)) (((bl p).drop j).all okc) := by
 intro d
 induction d with
 | zero =>
  intro j hj
  rw [List.drop_of_length_le (by rw [bl_len]; omega)]
  refine Ev.step (f := fun _ => some true) (fun k => ?_) (Ev.now _)
  rw [r02_name.l0, if_neg (by omega)]
 | succ d ih =>
  intro j hj
  have hlt : j < (bl p).length := by rw [bl_len]; omega
  have hn := ih (j + 1) (by omega)
  rw [drop_cons _ j hlt, List.all_cons]
  have hw : wrap64 ((j : Int) + 1) = ((j + 1 : Nat) : Int) := by rw [w64 (by omega) (by omega)]; rfl
  refine Ev.step (fun k => by rw [r02_name.l0, if_pos (by omega), if_pos (by omega), bt_bl p j hlt, (rLD_is _).1, Option.bind_some, hw]) ?_
  generalize (bl p)[j] = c
  by_cases h1 : ((97 ≤ c && c ≤ 122) || (65 ≤ c && c ≤ 90)) = true
  ·refine Ev.ite_pos h1 ?_
   rw [okc, h1]; simpa using hn
  refine Ev.ite_neg h1 (Ev.bind_eq (rLD_is c).2 ?_)
  by_cases h2 : (48 ≤ c && c ≤ 57) = true
  ·refine Ev.ite_pos h2 ?_
   rw [okc, h2]; simpa using hn
  refine Ev.ite_neg h2 ?_
  by_cases h3 : c = 46
  ·refine Ev.ite_pos ((u8_eq c 46 (by omega)).2 h3) ?_
   rw [okc, h3]; simpa using hn
  refine Ev.ite_neg (fun e => h3 ((u8_eq c 46 (by omega)).1 e)) ?_
  by_cases h4 : c = 95
  ·refine Ev.ite_pos ((u8_eq c 95 (by omega)).2 h4) ?_
   rw [okc, h4]; simpa using hn
  refine Ev.ite_neg (fun e => h4 ((u8_eq c 95 (by omega)).1 e)) ?_
  by_cases h5 : c = 45
  ·refine Ev.ite_pos ((u8_eq c 45 (by omega)).2 h5) ?_
   rw [okc, h5]; simpa using hn
  refine Ev.ite_neg (fun e => h5 ((u8_eq c 45 (by omega)).1 e)) ?_
  have e : okc c = false := by
   rw [okc, Bool.eq_false_iff.2 h1, Bool.eq_false_iff.2 h2, beq_eq_false_iff_ne.2 h3, beq_eq_false_iff_ne.2 h4, beq_eq_false_iff_ne.2 h5]; rfl
  rw [e, Bool.false_and]
  exact Ev.now _
theorem rname_is (p : ByteArray) (hp : p.size ≤ 100000) : Ev (fun k => r02_name.f k p) (okname (bl p)) := by
 have hf : okname (bl p) = false → Ev (fun k => r02_name.j0 k p true) (okname (bl p)) := by
  intro e
  rw [e]
  refine Ev.step (f := fun _ => some false) (fun k => ?_) (Ev.now _)
  rw [r02_name.j0, if_pos rfl]
 refine Ev.congr (fun k => by rw [r02_name.f, toList_bl]) ?_
 by_cases h3 : (p.size : Int) < 1
 ·exact Ev.ite_pos h3 (hf (by rw [okname, decide_eq_false (by rw [bl_len]; omega), Bool.false_and]))
 refine Ev.ite_neg h3 ?_
 by_cases h4 : (p.size : Int) > 24
 ·exact Ev.ite_pos h4 (hf (by rw [okname, decide_eq_false (show ¬ (bl p).length ≤ 24 by rw [bl_len]; omega), Bool.false_and, Bool.and_false]))
 refine Ev.ite_neg h4 ?_
 by_cases h1 : bl p = [46]
 ·exact Ev.ite_pos h1 (hf (by rw [h1]; decide))
 refine Ev.ite_neg h1 ?_
 by_cases h2 : bl p = [46, 46]
 ·rw [beq_iff_eq.2 h2]
  exact hf (by rw [h2]; decide)
 rw [beq_eq_false_iff_ne.2 h2]
 have e : okname (bl p) = (bl p).all okc := by
  rw [okname, decide_eq_true (show 1 ≤ (bl p).length by rw [bl_len]; omega), decide_eq_true (show (bl p).length ≤ 24 by rw [bl_len]; omega), decide_eq_true h1, decide_eq_true h2]; simp
 rw [e]
 refine Ev.step (fun k => by rw [r02_name.j0, if_neg (by decide)]) ?_
 exact rname_l0 p hp p.size 0 (by omega)
theorem rValid_l0 (s : ByteArray) (hs : s.size ≤ 100000) : ∀ d (b a : Nat), b + d = s.size → a ≤ b → (47 : UInt8) ∉ ((bl s).drop a).take (b - a) →
  Ev (fun k => r02_ValidPath.l0 k s (a : Int) (b : Int)) ((split47 ((bl s).drop a)).all okname) := by
 intro d
 induction d with
 | zero =>
  intro b a hb hab hno
  obtain rfl : b = s.size := by omega
  have hd : ((bl s).drop a).take (s.size - a) = (bl s).drop a := List.take_of_length_le (by rw [List.length_drop, bl_len]; omega)
  rw [hd] at hno
  have he : bl (s.extract a s.size) = (bl s).drop a := by rw [bl_ext, hd]
  refine Ev.step (fun k => by rw [r02_ValidPath.l0, if_pos (Int.le_refl _), if_pos rfl]) (Ev.step (fun k => by rw [r02_ValidPath.j1, if_pos rfl, if_pos (by omega), if_pos (by omega), if_pos (by omega), Int.toNat_natCast, Int.toNat_natCast]) ?_)
  have hn := rname_is (s.extract a s.size) (by rw [ByteArray.size_extract]; omega)
  rw [he] at hn
  rw [split_none hno, List.all_cons, List.all_nil, Bool.and_true]
  refine Ev.bind hn ?_
  by_cases h : okname ((bl s).drop a) = true
  ·rw [h]
   refine Ev.ite_pos rfl (Ev.step (f := fun _ => some true) (fun k => ?_) (Ev.now _))
   rw [r02_ValidPath.l0, w64 (by omega) (by omega), if_neg (by omega)]
  ·rw [Bool.eq_false_iff.2 h]
   exact Ev.ite_neg (by simp) (Ev.now _)
 | succ d ih =>
  intro b a hb hab hno
  have hlt : b < (bl s).length := by rw [bl_len]; omega
  have hw : wrap64 ((b : Int) + 1) = ((b + 1 : Nat) : Int) := by rw [w64 (by omega) (by omega)]; rfl
  refine Ev.step (fun k => by rw [r02_ValidPath.l0, if_pos (by omega), if_neg (by omega), if_pos (by omega), if_pos (by omega), bt_bl s b hlt]) ?_
  have hsp : (bl s).drop a = ((bl s).drop a).take (b - a) ++ (bl s)[b] :: (bl s).drop (b + 1) := by
   have h1 := List.take_append_drop (b - a) ((bl s).drop a)
   rw [List.drop_drop, show a + (b - a) = b by omega, drop_cons _ b hlt] at h1
   exact h1.symm
  by_cases h : (bl s)[b] = 47
  ·rw [show (((bl s)[b].toNat : Int) == 47) = true from beq_iff_eq.2 ((u8_eq _ 47 (by omega)).2 h)]
   have he : bl (s.extract a b) = ((bl s).drop a).take (b - a) := bl_ext s a b
   have hn := rname_is (s.extract a b) (by rw [ByteArray.size_extract]; omega)
   rw [he] at hn
   rw [h] at hsp
   refine Ev.step (fun k => by rw [r02_ValidPath.j1, if_pos rfl, if_pos (by omega), if_pos (by omega), if_pos (by omega), Int.toNat_natCast, Int.toNat_natCast, hw]) (Ev.bind hn ?_)
   rw [hsp, split_at _ hno, List.all_cons]
   rw [← hsp]
   by_cases h2 : okname (((bl s).drop a).take (b - a)) = true
   ·rw [h2, Bool.true_and]
    refine Ev.ite_pos rfl ?_
    exact ih (b + 1) (b + 1) (by omega) (Nat.le_refl _) (by rw [Nat.sub_self, List.take_zero]; simp)
   ·rw [Bool.eq_false_iff.2 h2, Bool.false_and]
    exact Ev.ite_neg (by simp) (Ev.now _)
  ·rw [show (((bl s)[b].toNat : Int) == 47) = false from beq_eq_false_iff_ne.2 (fun e => h ((u8_eq _ 47 (by omega)).1 e))]
   refine Ev.step (fun k => by rw [r02_ValidPath.j1, if_neg (by decide), hw]) ?_
   refine ih (b + 1) a (by omega) (by omega) ?_
   have h3 : ((bl s).drop a).take (b + 1 - a) = ((bl s).drop a).take (b - a) ++ [(bl s)[b]] := by
    rw [show b + 1 - a = (b - a) + 1 by omega, List.take_succ_eq_append_getElem (by rw [List.length_drop]; omega)]
    congr 2
    rw [List.getElem_drop]
    congr 1
    omega
   rw [h3, List.mem_append, not_or]
   exact ⟨hno, by rw [List.mem_singleton]; exact fun e => h e.symm⟩
theorem rValidPath_is (s : ByteArray) : Ev (fun k => r02_ValidPath.f k s) (validP s) := by
 by_cases h : (s.size : Int) > 60
 ·refine Ev.congr (fun k => ?_) (Ev.now _)
  rw [r02_ValidPath.f, if_pos h, validP, decide_eq_false (by omega), Bool.false_and]
 ·have hs : s.size ≤ 60 := by omega
  refine Ev.congr (fun k => by rw [r02_ValidPath.f, if_neg h]) ?_
  rw [validP, decide_eq_true hs, Bool.true_and]
  have := rValid_l0 s (by omega) s.size 0 0 (by omega) (Nat.le_refl _) (by rw [Nat.sub_self, List.take_zero]; simp)
  rw [List.drop_zero] at this
  exact this
def underP (p d : ByteArray) : Bool := decide (bl d = []) || decide (bl p = bl d ++ 47 :: (bl p).drop ((bl d).length + 1))

theorem Contains47G (s : ByteArray) : strings_Contains.f s ⟨#[47]⟩ = some (decide ((47 : UInt8) ∈ bl s)) := by
 rw [strings_Contains.f, index47, Option.bind_some]
 congr 1
 rw [decide_eq_decide]
 constructor
 ·intro h
  obtain ⟨o, ho⟩ : ∃ o : Nat, Lib.indexByte (bl s) 47 = (o : Int) := ⟨(Lib.indexByte (bl s) 47).toNat, by omega⟩
  exact List.mem_of_getElem? (Lib.indexByte_some ho).1
 ·intro h
  obtain ⟨o, ho, _⟩ := idx_of (List.count_pos_iff.2 h)
  omega
def simpleB (s : ByteArray) : Bool := validP s && !decide ((47 : UInt8) ∈ bl s)
theorem rlast_is (s : ByteArray) (hs : s.size ≤ 100000) : ∃ r, Ev (fun k => r02_last.f k s 47) r ∧ (r < 0 ↔ (47 : UInt8) ∉ bl s) := by
 have hlen : (bl s).length = s.size := rfl
 have key : ∀ d (i : Nat) (a : Int), i + d = s.size → (a < 0 ↔ (47 : UInt8) ∉ (bl s).take i) → ∃ r, Ev (fun k => r02_last.l0 k s 47 a (i : Int)) r ∧ (r < 0 ↔ (47 : UInt8) ∉ bl s) := by
  intro d
  induction d with
  | zero =>
   intro i a hi ha
   rw [List.take_of_length_le (by omega)] at ha
   exact ⟨a, Ev.step (f := fun _ => some a) (fun k => by rw [r02_last.l0, if_neg (by omega)]) (Ev.now _), ha⟩
  | succ d ih =>
   intro i a hi ha
   have hlt : i < (bl s).length := by omega
   by_cases c : (bl s)[i] = 47
   ·obtain ⟨r, h1, h2⟩ := ih (i + 1) (i : Int) (by omega) (by
     rw [List.take_succ_eq_append_getElem hlt, c]
     constructor
     ·intro h; omega
     ·intro h; exact absurd (List.mem_append_right _ List.mem_cons_self) h)
    exact ⟨r, Ev.step (fun k => by rw [r02_last.l0, if_pos (show (i : Int) < (s.size : Int) by omega), if_pos (show (0 : Int) ≤ (i : Int) by omega), bt_bl s i hlt, c, if_pos (by decide), w1 i (by omega)]) h1, h2⟩
   ·obtain ⟨r, h1, h2⟩ := ih (i + 1) a (by omega) (by
     rw [List.take_succ_eq_append_getElem hlt, ha]
     exact ⟨fun h hm => (List.mem_append.1 hm).elim h (fun e => c (List.mem_singleton.1 e).symm), fun h hm => h (List.mem_append_left _ hm)⟩)
    exact ⟨r, Ev.step (fun k => by rw [r02_last.l0, if_pos (show (i : Int) < (s.size : Int) by omega), if_pos (show (0 : Int) ≤ (i : Int) by omega), bt_bl s i hlt, if_neg (fun h => c (by have := (u8_eq (bl s)[i] 47 (by decide)).1 h; exact this)), w1 i (by omega)]) h1, h2⟩
 exact key s.size 0 (-1) (by omega) (by simp)
theorem rSimple_is (s : ByteArray) (hs : s.size ≤ 100000) : Ev (fun k => r02_Simple.f k s) (simpleB s) := by
 refine Ev.bind (rValidPath_is s) ?_
 by_cases c : validP s = true
 ·obtain ⟨r, h1, h2⟩ := rlast_is s hs
  rw [c]
  refine Ev.ite_pos rfl (Ev.bind h1 ?_)
  rw [simpleB, c, Bool.true_and, ← decide_not, ← decide_eq_decide.2 h2]
  exact Ev.now _
 ·rw [simpleB, Bool.eq_false_iff.2 c, Bool.false_and]
  exact Ev.ite_neg (by decide) (Ev.now _)
theorem ContainsI_is (l : List Int) (x : Int) (hl : l.length ≤ 1000000) : Ev (fun k => slices_Contains_int_int.f k l x) (decide (x ∈ l)) := by
 have key : ∀ d (i : Nat), i + d = l.length → ∃ r, Ev (fun k => slices_Index_int_int.l0 k l x (l.length : Int) (i : Int)) r ∧ (r ≥ 0 ↔ x ∈ l.drop i) := by
  intro d
  induction d with
  | zero =>
   intro i hi
   rw [List.drop_of_length_le (by omega)]
   exact ⟨-1, Ev.step (f := fun _ => some (-1 : Int)) (fun k => by rw [slices_Index_int_int.l0, if_neg (by omega)]) (Ev.now _), by simp⟩
  | succ d ih =>
   intro i hi
   have hlt : i < l.length := by omega
   rw [List.drop_eq_getElem_cons hlt]
   by_cases c : x = l[i]
   ·exact ⟨(i : Int), Ev.step (f := fun _ => some (i : Int)) (fun k => by rw [slices_Index_int_int.l0, if_pos (show (i : Int) < (l.length : Int) by omega), if_pos (show (0 : Int) ≤ (i : Int) by omega), if_pos (show (i : Int) < (l.length : Int) by omega), rd_nat l i hlt, if_pos c]) (Ev.now _), ⟨fun _ => by rw [c]; exact List.mem_cons_self, fun _ => by omega⟩⟩
   ·obtain ⟨r, h1, h2⟩ := ih (i + 1) (by omega)
    exact ⟨r, Ev.step (fun k => by rw [slices_Index_int_int.l0, if_pos (show (i : Int) < (l.length : Int) by omega), if_pos (show (0 : Int) ≤ (i : Int) by omega), if_pos (show (i : Int) < (l.length : Int) by omega), rd_nat l i hlt, if_neg c, w1 i (by omega)]) h1, h2.trans ⟨List.mem_cons_of_mem _, fun h => (List.mem_cons.1 h).resolve_left c⟩⟩
 obtain ⟨r, h1, h2⟩ := key l.length 0 (by omega)
 rw [List.drop_zero] at h2
 rw [← decide_eq_decide.2 h2]
 exact Ev.bind h1 (Ev.now _)
theorem ContainsS_is (l : List ByteArray) (x : ByteArray) (hl : l.length ≤ 1000000) : Ev (fun k => slices_Contains_string_string.f k l x) (decide (x ∈ l)) := by
 have key : ∀ d (i : Nat), i + d = l.length → ∃ r, Ev (fun k => slices_Index_string_string.l0 k l x (l.length : Int) (i : Int)) r ∧ (r ≥ 0 ↔ x ∈ l.drop i) := by
  intro d
  induction d with
  | zero =>
   intro i hi
   rw [List.drop_of_length_le (by omega)]
   exact ⟨-1, Ev.step (f := fun _ => some (-1 : Int)) (fun k => by rw [slices_Index_string_string.l0, if_neg (by omega)]) (Ev.now _), by simp⟩
  | succ d ih =>
   intro i hi
   have hlt : i < l.length := by omega
   rw [List.drop_eq_getElem_cons hlt]
   by_cases c : x = l[i]
   ·exact ⟨(i : Int), Ev.step (f := fun _ => some (i : Int)) (fun k => by rw [slices_Index_string_string.l0, if_pos (show (i : Int) < (l.length : Int) by omega), if_pos (show (0 : Int) ≤ (i : Int) by omega), if_pos (show (i : Int) < (l.length : Int) by omega), rdOf_nat _ l i hlt, if_pos (toList_eq_.2 c)]) (Ev.now _), ⟨fun _ => by rw [c]; exact List.mem_cons_self, fun _ => by omega⟩⟩
   ·obtain ⟨r, h1, h2⟩ := ih (i + 1) (by omega)
    exact ⟨r, Ev.step (fun k => by rw [slices_Index_string_string.l0, if_pos (show (i : Int) < (l.length : Int) by omega), if_pos (show (0 : Int) ≤ (i : Int) by omega), if_pos (show (i : Int) < (l.length : Int) by omega), rdOf_nat _ l i hlt, if_neg (fun h => c (toList_eq_.1 h)), w1 i (by omega)]) h1, h2.trans ⟨List.mem_cons_of_mem _, fun h => (List.mem_cons.1 h).resolve_left c⟩⟩
 obtain ⟨r, h1, h2⟩ := key l.length 0 (by omega)
 rw [List.drop_zero] at h2
 rw [← decide_eq_decide.2 h2]
 exact Ev.bind h1 (Ev.now _)
theorem gfind_is (l : List GS) (s : ByteArray) (hl : l.length ≤ 1000000) : ∃ r, Ev (fun k => group_find.f k l s) r ∧ r.2.2.2 = (findG l s).isSome := by
 have key : ∀ d (i : Nat), i + d = l.length → ∃ r, Ev (fun k => group_find.l0 k s l (l.length : Int) (i : Int)) r ∧ r.2.2.2 = (findG (l.drop i) s).isSome := by
  intro d
  induction d with
  | zero =>
   intro i hi
   rw [List.drop_of_length_le (by omega)]
   exact ⟨_, Ev.step (f := fun _ => some ((⟨#[]⟩ : ByteArray), ([] : List Int), ([] : List ByteArray), false)) (fun k => by rw [group_find.l0, if_neg (by omega)]) (Ev.now _), rfl⟩
  | succ d ih =>
   intro i hi
   have hlt : i < l.length := by omega
   rw [List.drop_eq_getElem_cons hlt, findG, List.find?_cons]
   by_cases c : l[i].f0 = s
   ·exact ⟨_, Ev.step (f := fun _ => some (l[i].f0, l[i].f1, l[i].f2, true)) (fun k => by rw [group_find.l0, if_pos (show (i : Int) < (l.length : Int) by omega), if_pos (show (0 : Int) ≤ (i : Int) by omega), if_pos (show (i : Int) < (l.length : Int) by omega), rdG_nat l i hlt, if_pos (toList_eq_.2 c)]) (Ev.now _), by rw [decide_eq_true c]; rfl⟩
   ·obtain ⟨r, h1, h2⟩ := ih (i + 1) (by omega)
    exact ⟨r, Ev.step (fun k => by rw [group_find.l0, if_pos (show (i : Int) < (l.length : Int) by omega), if_pos (show (0 : Int) ≤ (i : Int) by omega), if_pos (show (i : Int) < (l.length : Int) by omega), rdG_nat l i hlt, if_neg (fun h => c (toList_eq_.1 h)), w1 i (by omega)]) h1, by rw [h2, decide_eq_false c]; rfl⟩
 exact key l.length 0 (by omega)
def rngB (l : List Int) : Bool := l.all fun u => decide (1 ≤ u) && decide (u ≤ 9999)
def hasB (l : List GS) (ns : List ByteArray) : Bool := ns.all fun n => (findG l n).isSome
def memT (l : List GS) (us : List Int) (ns : List ByteArray) : Int :=
 if us.length + ns.length > 16 then 4 else if rngB us = true then if us.Nodup then if ns.Nodup then if hasB l ns = true then 0 else 8 else 7 else 7 else 2
theorem nodup_take {α : Type} (l : List α) (i : Nat) (h : i < l.length) (hn : (l.take i).Nodup) (hm : l[i] ∉ l.take i) : (l.take (i + 1)).Nodup := by
 rw [List.take_succ_eq_append_getElem h]
 exact List.nodup_append.2 ⟨hn, by simp, fun a ha b hb e => hm (by rw [List.mem_singleton] at hb; rw [← hb, ← e]; exact ha)⟩
theorem not_nodup {α : Type} (l : List α) (i : Nat) (h : i < l.length) (hm : l[i] ∈ l.take i) : ¬ l.Nodup := fun hn => by
 have := hn.sublist (List.take_sublist (i + 1) l)
 rw [List.take_succ_eq_append_getElem h] at this
 exact (List.nodup_append.1 this).2.2 _ hm _ List.mem_cons_self rfl
section
variable (l : List GS) (hl : l.length ≤ 1000000) (s : ByteArray) (us : List Int) (ns : List ByteArray)
theorem has_cons (l : List GS) (n : ByteArray) (t : List ByteArray) : hasB l (n :: t) = ((findG l n).isSome && hasB l t) := rfl
theorem rng_cons (u : Int) (t : List Int) : rngB (u :: t) = ((decide (1 ≤ u) && decide (u ≤ 9999)) && rngB t) := rfl
include hl
theorem one_l3 : ∀ d (i : Nat), i + d = ns.length → i ≤ 1000000 → ns.length ≤ 1000000 → Ev (fun k => group_one.l3 k l ns (ns.length : Int) (i : Int)) (if hasB l (ns.drop i) = true then 0 else 8) := by
 intro d
 induction d with
 | zero =>
  intro i hi _ hn
  rw [List.drop_of_length_le (by omega)]
  exact Ev.step (f := fun _ => some (0 : Int)) (fun k => by rw [group_one.l3, if_neg (by omega)]) (Ev.now _)
 | succ d ih =>
  intro i hi _ hn
  have hlt : i < ns.length := by omega
  rw [List.drop_eq_getElem_cons hlt, has_cons]
  obtain ⟨r, h1, h2⟩ := gfind_is l ns[i] hl
  refine Ev.step (fun k => by rw [group_one.l3, if_pos (show (i : Int) < (ns.length : Int) by omega), if_pos (show (0 : Int) ≤ (i : Int) by omega), if_pos (show (i : Int) < (ns.length : Int) by omega), rdOf_nat _ ns i hlt, w1 i (by omega)]) (Ev.bind h1 ?_)
  rw [h2]
  by_cases c : (findG l ns[i]).isSome = true
  ·rw [c, Bool.true_and]; exact Ev.ite_pos rfl (ih (i + 1) (by omega) (by omega) hn)
  ·rw [Bool.eq_false_iff.2 c, Bool.false_and, if_neg (by decide)]; exact Ev.ite_neg (by decide) (Ev.now _)
theorem one_l2 (hn : ns.length ≤ 1000000) : ∀ d (i : Nat), i + d = ns.length → (ns.take i).Nodup → Ev (fun k => group_one.l2 k l ns (ns.length : Int) (i : Int) s us ns) (if ns.Nodup then if hasB l ns = true then 0 else 8 else 7) := by
 intro d
 induction d with
 | zero =>
  intro i hi hd
  rw [List.take_of_length_le (by omega)] at hd
  rw [if_pos hd]
  have := one_l3 l hl ns ns.length 0 (by omega) (by omega) hn
  rw [List.drop_zero] at this
  exact Ev.step (fun k => by rw [group_one.l2, if_neg (by omega)]; rfl) this
 | succ d ih =>
  intro i hi hd
  have hlt : i < ns.length := by omega
  refine Ev.step (fun k => by rw [group_one.l2, if_pos (show (i : Int) < (ns.length : Int) by omega), if_pos (show (0 : Int) ≤ (i : Int) by omega), if_pos (show (i : Int) < (ns.length : Int) by omega), if_pos (show (i : Int) ≤ (ns.length : Int) by omega), rdOf_nat _ ns i hlt, w1 i (by omega), Int.toNat_natCast]) (Ev.bind (ContainsS_is _ _ (by rw [List.length_take]; omega)) ?_)
  by_cases c : ns[i] ∈ ns.take i
  ·rw [decide_eq_true c, if_neg (not_nodup ns i hlt c)]; exact Ev.ite_pos rfl (Ev.now _)
  ·rw [decide_eq_false c]; exact Ev.ite_neg (by decide) (ih (i + 1) (by omega) (nodup_take ns i hlt hd c))
theorem one_l1 (hn : ns.length ≤ 1000000) (hu : us.length ≤ 1000000) : ∀ d (i : Nat), i + d = us.length → (us.take i).Nodup → Ev (fun k => group_one.l1 k l us (us.length : Int) (i : Int) s us ns) (if us.Nodup then if ns.Nodup then if hasB l ns = true then 0 else 8 else 7 else 7) := by
 intro d
 induction d with
 | zero =>
  intro i hi hd
  rw [List.take_of_length_le (by omega)] at hd
  rw [if_pos hd]
  exact Ev.step (fun k => by rw [group_one.l1, if_neg (by omega)]; rfl) (one_l2 l hl s us ns hn ns.length 0 (by omega) (by simp))
 | succ d ih =>
  intro i hi hd
  have hlt : i < us.length := by omega
  refine Ev.step (fun k => by rw [group_one.l1, if_pos (show (i : Int) < (us.length : Int) by omega), if_pos (show (0 : Int) ≤ (i : Int) by omega), if_pos (show (i : Int) < (us.length : Int) by omega), if_pos (show (i : Int) ≤ (us.length : Int) by omega), rd_nat us i hlt, w1 i (by omega), Int.toNat_natCast]) (Ev.bind (ContainsI_is _ _ (by rw [List.length_take]; omega)) ?_)
  by_cases c : us[i] ∈ us.take i
  ·rw [decide_eq_true c, if_neg (not_nodup us i hlt c)]; exact Ev.ite_pos rfl (Ev.now _)
  ·rw [decide_eq_false c]; exact Ev.ite_neg (by decide) (ih (i + 1) (by omega) (nodup_take us i hlt hd c))
theorem one_l0 (hn : ns.length ≤ 1000000) (hu : us.length ≤ 1000000) : ∀ d (i : Nat), i + d = us.length → Ev (fun k => group_one.l0 k l us (us.length : Int) (i : Int) s us ns) (if rngB (us.drop i) = true then if us.Nodup then if ns.Nodup then if hasB l ns = true then 0 else 8 else 7 else 7 else 2) := by
 intro d
 induction d with
 | zero =>
  intro i hi
  rw [List.drop_of_length_le (by omega), if_pos (show rngB [] = true from rfl)]
  exact Ev.step (fun k => by rw [group_one.l0, if_neg (by omega)]; rfl) (one_l1 l hl s us ns hn hu us.length 0 (by omega) (by simp))
 | succ d ih =>
  intro i hi
  have hlt : i < us.length := by omega
  rw [List.drop_eq_getElem_cons hlt, rng_cons]
  refine Ev.step (fun k => by rw [group_one.l0, if_pos (show (i : Int) < (us.length : Int) by omega), if_pos (show (0 : Int) ≤ (i : Int) by omega), if_pos (show (i : Int) < (us.length : Int) by omega), rd_nat us i hlt, w1 i (by omega)]) ?_
  by_cases c : us[i] < 1
  ·rw [decide_eq_false (show ¬ 1 ≤ us[i] by omega), Bool.false_and, Bool.false_and, if_neg (by decide)]; exact Ev.ite_pos c (Ev.now _)
  ·refine Ev.ite_neg c ?_
   rw [decide_eq_true (show 1 ≤ us[i] by omega), Bool.true_and]
   by_cases c2 : us[i] > 9999
   ·rw [decide_eq_false (show ¬ us[i] ≤ 9999 by omega), Bool.false_and, if_neg (by decide)]; exact Ev.ite_pos c2 (Ev.now _)
   ·rw [decide_eq_true (show us[i] ≤ 9999 by omega), Bool.true_and]; exact Ev.ite_neg c2 (ih (i + 1) (by omega))
theorem rmem_l3 : ∀ d (i : Nat), i + d = ns.length → i ≤ 1000000 → ns.length ≤ 1000000 → Ev (fun k => r43_members.l3 k l (i : Int) s us ns) (if hasB l (ns.drop i) = true then 0 else 8) := by
 intro d
 induction d with
 | zero =>
  intro i hi _ hn
  rw [List.drop_of_length_le (by omega)]
  exact Ev.step (f := fun _ => some (0 : Int)) (fun k => by rw [r43_members.l3, if_neg (by omega)]) (Ev.now _)
 | succ d ih =>
  intro i hi _ hn
  have hlt : i < ns.length := by omega
  rw [List.drop_eq_getElem_cons hlt, has_cons]
  refine Ev.step (fun k => by rw [r43_members.l3, if_pos (show (i : Int) < (ns.length : Int) by omega), if_pos (show (0 : Int) ≤ (i : Int) by omega), rdOf_nat _ ns i hlt, w1 i (by omega)]) (Ev.bind (at_is l ns[i] hl) ?_)
  rcases idx_spec l ns[i] with ⟨h1, h2⟩ | ⟨a, ha, h2, h1, h3, h4⟩
  ·rw [h1, h2, show (none : Option GS).isSome = false from rfl, Bool.false_and, if_neg (by decide)]; exact Ev.ite_pos (by decide) (Ev.now _)
  ·rw [h1, h2, show (some l[a] : Option GS).isSome = true from rfl, Bool.true_and]; exact Ev.ite_neg (by omega) (ih (i + 1) (by omega) (by omega) hn)
theorem rmem_l2 (hn : ns.length ≤ 1000000) : ∀ d (i : Nat), i + d = ns.length → (ns.take i).Nodup → Ev (fun k => r43_members.l2 k l (i : Int) s us ns) (if ns.Nodup then if hasB l ns = true then 0 else 8 else 7) := by
 intro d
 induction d with
 | zero =>
  intro i hi hd
  rw [List.take_of_length_le (by omega)] at hd
  rw [if_pos hd]
  have := rmem_l3 l hl s us ns ns.length 0 (by omega) (by omega) hn
  rw [List.drop_zero] at this
  exact Ev.step (fun k => by rw [r43_members.l2, if_neg (by omega)]; rfl) this
 | succ d ih =>
  intro i hi hd
  have hlt : i < ns.length := by omega
  refine Ev.step (fun k => by rw [r43_members.l2, if_pos (show (i : Int) < (ns.length : Int) by omega), if_pos (show (0 : Int) ≤ (i : Int) by omega), if_pos (show (i : Int) ≤ (ns.length : Int) by omega), rdOf_nat _ ns i hlt, w1 i (by omega), Int.toNat_natCast]) (Ev.bind (inText_is _ _ (by rw [List.length_take]; omega)) ?_)
  by_cases c : ns[i] ∈ ns.take i
  ·rw [decide_eq_true c, if_neg (not_nodup ns i hlt c)]; exact Ev.ite_pos rfl (Ev.now _)
  ·rw [decide_eq_false c]; exact Ev.ite_neg (by decide) (ih (i + 1) (by omega) (nodup_take ns i hlt hd c))
theorem rmem_l1 (hn : ns.length ≤ 1000000) (hu : us.length ≤ 1000000) : ∀ d (i : Nat), i + d = us.length → (us.take i).Nodup → Ev (fun k => r43_members.l1 k l (i : Int) s us ns) (if us.Nodup then if ns.Nodup then if hasB l ns = true then 0 else 8 else 7 else 7) := by
 intro d
 induction d with
 | zero =>
  intro i hi hd
  rw [List.take_of_length_le (by omega)] at hd
  rw [if_pos hd]
  exact Ev.step (fun k => by rw [r43_members.l1, if_neg (by omega)]; rfl) (rmem_l2 l hl s us ns hn ns.length 0 (by omega) (by simp))
 | succ d ih =>
  intro i hi hd
  have hlt : i < us.length := by omega
  refine Ev.step (fun k => by rw [r43_members.l1, if_pos (show (i : Int) < (us.length : Int) by omega), if_pos (show (0 : Int) ≤ (i : Int) by omega), if_pos (show (i : Int) ≤ (us.length : Int) by omega), rd_nat us i hlt, w1 i (by omega), Int.toNat_natCast]) (Ev.bind (In_go _ _ (by rw [List.length_take]; omega)) ?_)
  by_cases c : us[i] ∈ us.take i
  ·rw [decide_eq_true c, if_neg (not_nodup us i hlt c)]; exact Ev.ite_pos rfl (Ev.now _)
  ·rw [decide_eq_false c]; exact Ev.ite_neg (by decide) (ih (i + 1) (by omega) (nodup_take us i hlt hd c))
theorem rmem_l0 (hn : ns.length ≤ 1000000) (hu : us.length ≤ 1000000) : ∀ d (i : Nat), i + d = us.length → Ev (fun k => r43_members.l0 k l (i : Int) s us ns) (if rngB (us.drop i) = true then if us.Nodup then if ns.Nodup then if hasB l ns = true then 0 else 8 else 7 else 7 else 2) := by
 intro d
 induction d with
 | zero =>
  intro i hi
  rw [List.drop_of_length_le (by omega), if_pos (show rngB [] = true from rfl)]
  exact Ev.step (fun k => by rw [r43_members.l0, if_neg (by omega)]; rfl) (rmem_l1 l hl s us ns hn hu us.length 0 (by omega) (by simp))
 | succ d ih =>
  intro i hi
  have hlt : i < us.length := by omega
  rw [List.drop_eq_getElem_cons hlt, rng_cons]
  refine Ev.step (fun k => by rw [r43_members.l0, if_pos (show (i : Int) < (us.length : Int) by omega), if_pos (show (0 : Int) ≤ (i : Int) by omega), rd_nat us i hlt, w1 i (by omega)]) ?_
  by_cases c : us[i] < 1
  ·rw [decide_eq_false (show ¬ 1 ≤ us[i] by omega), Bool.false_and, Bool.false_and, if_neg (by decide)]; exact Ev.ite_pos c (Ev.now _)
  ·refine Ev.ite_neg c ?_
   rw [decide_eq_true (show 1 ≤ us[i] by omega), Bool.true_and]
   by_cases c2 : us[i] > 9999
   ·rw [decide_eq_false (show ¬ us[i] ≤ 9999 by omega), Bool.false_and, if_neg (by decide)]; exact Ev.ite_pos c2 (Ev.now _)
   ·rw [decide_eq_true (show us[i] ≤ 9999 by omega), Bool.true_and]; exact Ev.ite_neg c2 (ih (i + 1) (by omega))
theorem rmembers_is (hn : ns.length ≤ 1000) (hu : us.length ≤ 1000) : Ev (fun k => r43_members.f k l s us ns) (memT l us ns) := by
 have h0 := rmem_l0 l hl s us ns (by omega) (by omega) us.length 0 (by omega)
 rw [List.drop_zero] at h0
 have bad : Ev (fun k => r43_members.j0 k l true s us ns) 4 := Ev.step (f := fun _ => some (4 : Int)) (fun k => by rw [r43_members.j0, if_pos rfl]) (Ev.now _)
 rw [memT]
 by_cases c1 : (us.length : Int) > 16
 ·rw [if_pos (by omega)]; exact Ev.ite_pos c1 bad
 refine Ev.ite_neg c1 ?_
 by_cases c2 : (ns.length : Int) > 16
 ·rw [if_pos (by omega)]; exact Ev.ite_pos c2 bad
 refine Ev.ite_neg c2 ?_
 rw [w64 (by omega) (by omega)]
 by_cases c3 : us.length + ns.length > 16
 ·rw [if_pos c3, decide_eq_true (by omega)]; exact bad
 ·rw [if_neg c3, decide_eq_false (by omega)]
  exact Ev.step (fun k => by rw [r43_members.j0, if_neg (by decide)]; rfl) h0
end
def oneT (l : List GS) (i : Nat) (g : GS) : Int := if simpleB g.f0 = true then if (findG (l.take i) g.f0).isSome = true then 7 else memT l g.f1 g.f2 else 3
theorem gone_is (l : List GS) (hf : Few l) (i : Nat) (hi : i < l.length) : Ev (fun k => group_one.f k l (i : Int)) (oneT l i l[i]) := by
 have hl := hf.len
 have hu := hf.users l[i] (List.getElem_mem _)
 have hn := hf.groups l[i] (List.getElem_mem _)
 have bad : Ev (fun k => group_one.j0 k l (i : Int) true l[i].f0 l[i].f1 l[i].f2) 3 := Ev.step (f := fun _ => some (3 : Int)) (fun k => by rw [group_one.j0, if_pos rfl]) (Ev.now _)
 refine Ev.congr (fun k => by rw [group_one.f, if_pos (show (0 : Int) ≤ (i : Int) by omega), if_pos (show (i : Int) < (l.length : Int) by omega), rdG_nat l i hi]) (Ev.bind (ValidPath_is l[i].f0) ?_)
 rw [oneT, simpleB]
 by_cases c : validP l[i].f0 = true
 ·rw [c, Bool.true_and]
  refine Ev.ite_pos rfl (Ev.bind_eq (Contains47G l[i].f0) ?_)
  by_cases c2 : (47 : UInt8) ∈ bl l[i].f0
  ·rw [decide_eq_true c2, Bool.not_true, if_neg (by decide)]; exact bad
  ·rw [decide_eq_false c2, Bool.not_false, if_pos rfl]
   obtain ⟨r, h1, h2⟩ := gfind_is (l.take i) l[i].f0 (by rw [List.length_take]; omega)
   refine Ev.step (fun k => by rw [group_one.j0, if_neg (by decide), if_pos (show (0 : Int) ≤ (i : Int) by omega), if_pos (show (i : Int) ≤ (l.length : Int) by omega), Int.toNat_natCast]) (Ev.bind h1 ?_)
   rw [h2]
   by_cases c3 : (findG (l.take i) l[i].f0).isSome = true
   ·rw [if_pos c3]; exact Ev.ite_pos c3 (Ev.now _)
   ·rw [if_neg c3, memT]
    refine Ev.ite_neg c3 ?_
    rw [w64 (by omega) (by omega)]
    by_cases c4 : l[i].f1.length + l[i].f2.length > 16
    ·rw [if_pos c4]; exact Ev.ite_pos (by omega) (Ev.now _)
    ·rw [if_neg c4]
     have h0 := one_l0 l (by omega) l[i].f0 l[i].f1 l[i].f2 (by omega) (by omega) l[i].f1.length 0 (by omega)
     rw [List.drop_zero] at h0
     exact Ev.ite_neg (by omega) h0
 ·rw [Bool.eq_false_iff.2 c, Bool.false_and, if_neg (by decide)]
  exact Ev.ite_neg (by decide) bad

def firstT (l : List GS) : List GS → Nat → Int
 | [], _ => 0
 | g :: gs, i => if oneT l i g = 0 then firstT l gs (i + 1) else oneT l i g
def loopB (l gs : List GS) : Bool := gs.any fun g => decide (g.f0 ∈ insideT l g.f0)
def deepB (l gs : List GS) : Bool := gs.any fun g => decide (deepT l g.f0 > 12)
def rightT (l : List GS) : Int := if l.length > 16 then 4 else if firstT l l 0 = 0 then if loopB l l = true then 10 else if deepB l l = true then 4 else 0 else firstT l l 0
theorem noLoop_of {l : List GS} (h : loopB l l = false) : NoLoop l := fun s hs => by
 obtain ⟨b, hb, _⟩ := hs.first
 obtain ⟨g, hg, rfl⟩ := List.mem_map.1 (subs_dom l s (List.ne_nil_of_mem hb))
 have := List.any_eq_false.1 h g hg
 exact this (decide_eq_true ((mem_insideT l _ _).2 hs))
theorem rights1_is (l : List GS) (hf : Few l) : ∀ (gs : List GS) (i : Nat), l.drop i = gs → Ev (fun k => rights1 k l gs i) (firstT l gs i)
 | [], _, _ => Ev.now _
 | g :: gs, i, h => by
  have hlt : i < l.length := by
   rcases Nat.lt_or_ge i l.length with h1 | h1
   ·exact h1
   ·rw [List.drop_of_length_le h1] at h; cases h
  rw [List.drop_eq_getElem_cons hlt] at h
  injection h with h1 h2
  have := gone_is l hf i hlt
  rw [h1] at this
  rw [firstT]
  refine Ev.bind this ?_
  by_cases c : oneT l i g = 0
  ·rw [if_pos c]; exact Ev.ite_pos c (rights1_is l hf gs (i + 1) h2)
  ·rw [if_neg c]; exact Ev.ite_neg c (Ev.now _)
theorem any_cons {α : Type} (p : α → Bool) (a : α) (t : List α) : (a :: t).any p = (p a || t.any p) := rfl
theorem rights2_is (l : List GS) (hf : Few l) : ∀ (gs : List GS), (∀ g ∈ gs, g ∈ l) → Ev (fun k => rights2 k l gs) (loopB l gs)
 | [], _ => Ev.now _
 | g :: gs, h => by
  obtain ⟨m, h1, h2, _⟩ := contained_is l hf g.f0
  rw [loopB, any_cons]
  have hs := hf.name g (h g List.mem_cons_self)
  refine Ev.ite_pos (decide_eq_true (by omega)) (Ev.bind h1 ?_)
  by_cases c : g.f0 ∈ m
  ·rw [decide_eq_true ((mem_insideT l _ _).2 ((h2 _).1 c)), Bool.true_or]; exact Ev.ite_pos c (Ev.now _)
  ·rw [decide_eq_false (fun e => c ((h2 _).2 ((mem_insideT l _ _).1 e))), Bool.false_or]; exact Ev.ite_neg c (rights2_is l hf gs (fun x hx => h x (List.mem_cons_of_mem _ hx)))
theorem rights3_is (l : List GS) (hf : Few l) (hn : NoLoop l) : ∀ (gs : List GS), (∀ g ∈ gs, g ∈ l) → Ev (fun k => rights3 k l gs) (deepB l gs)
 | [], _ => Ev.now _
 | g :: gs, h => by
  rw [deepB, any_cons]
  have hs := hf.name g (h g List.mem_cons_self)
  refine Ev.bind (Depth_is l hf hn g.f0 (by omega)) ?_
  by_cases c : deepT l g.f0 > 12
  ·rw [decide_eq_true c, Bool.true_or]; exact Ev.ite_pos (by omega) (Ev.now _)
  ·rw [decide_eq_false c, Bool.false_or]; exact Ev.ite_neg (by omega) (rights3_is l hf hn gs (fun x hx => h x (List.mem_cons_of_mem _ hx)))
theorem Right_is (l : List GS) (hf : Few l) : Ev (fun k => group_Right.f k l) (rightT l) := by
 rw [rightT]
 by_cases c : l.length > 16
 ·rw [if_pos c]; exact Ev.ite_pos (by omega) (Ev.now _)
 rw [if_neg c]
 refine Ev.ite_neg (by omega) (Ev.bind (rights1_is l hf l 0 (List.drop_zero)) ?_)
 by_cases c1 : firstT l l 0 = 0
 ·rw [if_pos c1]
  refine Ev.ite_pos c1 (Ev.bind (rights2_is l hf l (fun _ h => h)) ?_)
  by_cases c2 : loopB l l = true
  ·rw [if_pos c2]; exact Ev.ite_pos c2 (Ev.now _)
  ·rw [if_neg c2]
   refine Ev.ite_neg c2 (Ev.bind (rights3_is l hf (noLoop_of (Bool.eq_false_iff.2 c2)) l (fun _ h => h)) ?_)
   exact Ev.congr (f := fun _ => some (if deepB l l = true then 4 else 0)) (fun k => by split <;> rfl) (Ev.now _)
 ·rw [if_neg c1]; exact Ev.ite_neg c1 (Ev.now _)
theorem at_lt (l : List GS) (i : Nat) (hi : i < l.length) : (idxG l[i].f0 l 0 < (i : Int)) ↔ (findG (l.take i) l[i].f0).isSome = true := by
 rw [findG, List.find?_isSome]
 rcases idx_spec l l[i].f0 with ⟨h1, h2⟩ | ⟨a, ha, h2, h1, h3, h4⟩
 ·have := List.find?_eq_none.1 h1 l[i] (List.getElem_mem _)
  exact absurd (decide_eq_true rfl) this
 ·rw [h2]
  constructor
  ·intro h
   have hai : a < i := by omega
   exact ⟨l[a], List.mem_iff_getElem.2 ⟨a, by rw [List.length_take]; omega, by rw [List.getElem_take]⟩, decide_eq_true h3⟩
  ·rintro ⟨x, hx, he⟩
   obtain ⟨j, hj, rfl⟩ := List.mem_iff_getElem.1 hx
   rw [List.length_take] at hj
   rw [List.getElem_take] at he
   have h5 : ¬ j < a := fun h => h4 j (by omega) h (of_decide_eq_true he)
   omega
theorem rr_l2 (l : List GS) (hf : Few l) (hn : NoLoop l) : ∀ d (i : Nat), i + d = l.length → Ev (fun k => r43_Right.l2 k l (i : Int)) (if deepB l (l.drop i) = true then 4 else 0) := by
 have hl := hf.len
 intro d
 induction d with
 | zero =>
  intro i hi
  rw [List.drop_of_length_le (by omega)]
  exact Ev.step (f := fun _ => some (0 : Int)) (fun k => by rw [r43_Right.l2, if_neg (by omega)]) (Ev.now _)
 | succ d ih =>
  intro i hi
  have hlt : i < l.length := by omega
  rw [List.drop_eq_getElem_cons hlt, deepB, any_cons]
  refine Ev.step (fun k => by rw [r43_Right.l2, if_pos (show (i : Int) < (l.length : Int) by omega), if_pos (show (0 : Int) ≤ (i : Int) by omega), rdG_nat l i hlt, w1 i (by omega)]) (Ev.bind (rDepth_is l hf hn _) ?_)
  by_cases c : deepT l l[i].f0 > 12
  ·rw [decide_eq_true c, Bool.true_or, if_pos rfl]; exact Ev.ite_pos (by omega) (Ev.now _)
  ·rw [decide_eq_false c, Bool.false_or]; exact Ev.ite_neg (by omega) (ih (i + 1) (by omega))
theorem rr_l1 (l : List GS) (hf : Few l) : ∀ d (i : Nat), i + d = l.length → (loopB l (l.take i) = false) → Ev (fun k => r43_Right.l1 k l (i : Int)) (if loopB l l = true then 10 else if deepB l l = true then 4 else 0) := by
 have hl := hf.len
 intro d
 induction d with
 | zero =>
  intro i hi hb
  rw [List.take_of_length_le (by omega)] at hb
  rw [hb, if_neg (by decide)]
  have := rr_l2 l hf (noLoop_of hb) l.length 0 (by omega)
  rw [List.drop_zero] at this
  exact Ev.step (fun k => by rw [r43_Right.l1, if_neg (by omega)]; rfl) this
 | succ d ih =>
  intro i hi hb
  have hlt : i < l.length := by omega
  refine Ev.step (fun k => by rw [r43_Right.l1, if_pos (show (i : Int) < (l.length : Int) by omega), if_pos (show (0 : Int) ≤ (i : Int) by omega), rdG_nat l i hlt, w1 i (by omega)]) (Ev.bind (inside_is l hf _) (Ev.bind (inText_is (insideT l l[i].f0) _ (by have := insT_len hf l[i].f0 l.length; show (insT l l[i].f0 l.length).length ≤ _; omega)) ?_))
  by_cases c : l[i].f0 ∈ insideT l l[i].f0
  ·rw [decide_eq_true c, if_pos (show loopB l l = true from List.any_eq_true.2 ⟨l[i], List.getElem_mem _, decide_eq_true c⟩)]; exact Ev.ite_pos rfl (Ev.now _)
  ·rw [decide_eq_false c]
   refine Ev.ite_neg (by decide) (ih (i + 1) (by omega) ?_)
   rw [loopB, List.take_succ_eq_append_getElem hlt, List.any_append, Bool.or_eq_false_iff]
   exact ⟨hb, by simp [c]⟩
theorem rr_l0 (l : List GS) (hf : Few l) : ∀ d (i : Nat), i + d = l.length → Ev (fun k => r43_Right.l0 k l (i : Int)) (if firstT l (l.drop i) i = 0 then if loopB l l = true then 10 else if deepB l l = true then 4 else 0 else firstT l (l.drop i) i) := by
 have hl := hf.len
 intro d
 induction d with
 | zero =>
  intro i hi
  rw [List.drop_of_length_le (by omega), firstT, if_pos rfl]
  exact Ev.step (fun k => by rw [r43_Right.l0, if_neg (by omega)]; rfl) (rr_l1 l hf l.length 0 (by omega) rfl)
 | succ d ih =>
  intro i hi
  have hlt : i < l.length := by omega
  have hu := hf.users l[i] (List.getElem_mem _)
  have hg := hf.groups l[i] (List.getElem_mem _)
  have hs := hf.name l[i] (List.getElem_mem _)
  rw [List.drop_eq_getElem_cons hlt, firstT]
  refine Ev.step (fun k => by rw [r43_Right.l0, if_pos (show (i : Int) < (l.length : Int) by omega), if_pos (show (0 : Int) ≤ (i : Int) by omega), rdG_nat l i hlt, w1 i (by omega)]) (Ev.bind (rSimple_is _ (by omega)) ?_)
  rw [oneT]
  by_cases c : simpleB l[i].f0 = true
  ·rw [if_pos c]
   refine Ev.ite_pos c (Ev.bind (at_is l _ (by omega)) ?_)
   by_cases c2 : (findG (l.take i) l[i].f0).isSome = true
   ·rw [if_pos c2, if_neg (show ¬ (7 : Int) = 0 by decide), if_neg (show ¬ (7 : Int) = 0 by decide)]; exact Ev.ite_pos ((at_lt l i hlt).2 c2) (Ev.now _)
   ·rw [if_neg c2]
    refine Ev.ite_neg (fun h => c2 ((at_lt l i hlt).1 h)) (Ev.bind (rmembers_is l (by omega) l[i].f0 _ _ (by omega) (by omega)) ?_)
    by_cases c3 : memT l l[i].f1 l[i].f2 = 0
    ·rw [if_pos c3]; exact Ev.ite_pos c3 (ih (i + 1) (by omega))
    ·rw [if_neg c3, if_neg c3]; exact Ev.ite_neg c3 (Ev.now _)
  ·rw [if_neg c, if_neg (show ¬ (3 : Int) = 0 by decide), if_neg (show ¬ (3 : Int) = 0 by decide)]; exact Ev.ite_neg c (Ev.now _)
theorem rRight_is (l : List GS) (hf : Few l) : Ev (fun k => r43_Right.f k l) (rightT l) := by
 rw [rightT]
 by_cases c : l.length > 16
 ·rw [if_pos c]; exact Ev.ite_pos (by omega) (Ev.now _)
 rw [if_neg c]
 have := rr_l0 l hf l.length 0 (by omega)
 rw [List.drop_zero] at this
 exact Ev.ite_neg (by omega) this

def usersT (l : List GS) (s : ByteArray) : List Int := allUsers l s (insideT l s)
theorem users_none {l : List GS} {s : ByteArray} (h : findG l s = none) : usersG l s = [] := by rw [usersG, h]; rfl
theorem users_some {l : List GS} {s : ByteArray} {g : GS} (h : findG l s = some g) : usersG l s = g.f1 := by rw [usersG, h]; rfl
theorem usersG_len {l : List GS} (hf : Few l) (s : ByteArray) : (usersG l s).length ≤ 20 := by
 rcases h1 : findG l s with _ | g
 ·rw [users_none h1]; exact Nat.zero_le _
 ·rw [users_some h1]; exact hf.users g (find_mem h1).1
theorem mem_allUsers (l : List GS) (s : ByteArray) (m : List ByteArray) (x : Int) : x ∈ allUsers l s m ↔ x ∈ usersG l s ∨ ∃ n ∈ m, x ∈ usersG l n := by rw [allUsers, mem_uniq, List.mem_append, List.mem_flatMap]
theorem mem_usersT (l : List GS) (s : ByteArray) (x : Int) : x ∈ usersT l s ↔ x ∈ usersG l s ∨ ∃ n, Reach (subsG l) s n ∧ x ∈ usersG l n := by
 rw [usersT, mem_allUsers]
 simp only [mem_insideT]
theorem usersT_srt (l : List GS) (s : ByteArray) : (usersT l s).Pairwise (· < ·) := uniq_srt _
theorem usersT_len {l : List GS} (hf : Few l) (s : ByteArray) : (usersT l s).length ≤ 100000 := by
 have h1 := uniq_len (usersG l s ++ (insideT l s).flatMap (usersG l))
 have h2 := flat_len (usersG l) 20 (insideT l s) (fun n _ => usersG_len hf n)
 have h3 := insT_len hf s l.length
 have h4 := usersG_len hf s
 have h5 : (insideT l s).length = (insT l s l.length).length := rfl
 rw [List.length_append] at h1
 have h6 : (usersT l s).length = (uniq (usersG l s ++ (insideT l s).flatMap (usersG l))).length := rfl
 omega
theorem okUs_of {l : List GS} (hf : Few l) : okUs l = true := List.all_eq_true.2 fun g hg => decide_eq_true (by have := hf.users g hg; omega)
theorem Users_is (l : List GS) (hf : Few l) (s : ByteArray) : Ev (fun k => group_Users.f k l s) (usersT l s) := by
 obtain ⟨m, h1, h2, h3, h4⟩ := contained_is l hf s
 have hl := hf.len
 have e : allUsers l s m = usersT l s := srt_ext (uniq_srt _) (uniq_srt _) (fun x => by rw [mem_allUsers, mem_usersT]; simp only [h2])
 exact Ev.bind h1 (Ev.ite_pos ⟨⟨by omega, by omega⟩, okUs_of hf⟩ (by rw [e]; exact Ev.now _))
theorem In_is (l : List GS) (hf : Few l) (s : ByteArray) (u : Int) : Ev (fun k => group_In.f k l s u) (decide (u ∈ usersT l s)) :=
 Ev.bind (Users_is l hf s) (Ev.bind (ContainsI_is _ _ (by have := usersT_len hf s; omega)) (Ev.now _))
def namesU (l : List GS) (u : Int) (gs : List GS) : List ByteArray := (gs.filter fun g => decide (u ∈ usersT l g.f0)).map (·.f0)
theorem namesU_cons (l : List GS) (u : Int) (g : GS) (gs : List GS) : namesU l u (g :: gs) = if u ∈ usersT l g.f0 then g.f0 :: namesU l u gs else namesU l u gs := by
 rw [namesU]
 by_cases c : u ∈ usersT l g.f0
 ·rw [if_pos c, List.filter_cons_of_pos (by simpa using c)]; rfl
 ·rw [if_neg c, List.filter_cons_of_neg (by simpa using c)]; rfl
def ofT (l : List GS) (u : Int) : List ByteArray := sortdS (namesU l u l)
theorem Of_is (l : List GS) (hf : Few l) (u : Int) : Ev (fun k => group_Of.f k l u) (ofT l u) := by
 have hl := hf.len
 have key : ∀ d (i : Nat) (acc : List ByteArray), i + d = l.length → acc.length + d ≤ 1000 → Ev (fun k => group_Of.l0 k l u acc l (l.length : Int) (i : Int)) (sortdS (acc ++ namesU l u (l.drop i))) := by
  intro d
  induction d with
  | zero =>
   intro i acc hi ha
   rw [List.drop_of_length_le (by omega), show namesU l u [] = [] from rfl, List.append_nil]
   exact Ev.step (fun k => by rw [group_Of.l0, if_neg (by omega), slices_Sort_string_string.f, if_pos (show acc.length < 4611686018427387904 by omega)]; rfl) (Ev.now _)
  | succ d ih =>
   intro i acc hi ha
   have hlt : i < l.length := by omega
   rw [List.drop_eq_getElem_cons hlt, namesU_cons]
   refine Ev.step (fun k => by rw [group_Of.l0, if_pos (show (i : Int) < (l.length : Int) by omega), if_pos (show (0 : Int) ≤ (i : Int) by omega), if_pos (show (i : Int) < (l.length : Int) by omega), rdG_nat l i hlt, w1 i (by omega)]) (Ev.bind (In_is l hf _ u) ?_)
   by_cases c : u ∈ usersT l l[i].f0
   ·have := ih (i + 1) (acc ++ [l[i].f0]) (by omega) (by rw [List.length_append, List.length_singleton]; omega)
    rw [List.append_assoc, List.singleton_append] at this
    rw [decide_eq_true c, if_pos c]; exact Ev.ite_pos rfl (Ev.ite_pos (by omega) this)
   ·rw [decide_eq_false c, if_neg c]; exact Ev.ite_neg (by decide) (ih (i + 1) acc (by omega) (by omega))
 have := key l.length 0 [] (by omega) (by rw [List.length_nil]; omega)
 rw [List.drop_zero, List.nil_append] at this
 exact this
theorem sortdS_nodup {l : List ByteArray} (h : l.Nodup) : (sortdS l).Nodup := by
 have h1 : (l.map bl).Nodup := List.Pairwise.map bl (fun a b hab e => hab (bl_inj e)) h
 have h2 := (List.mergeSort_perm (l.map bl) (fun x y => decide (x ≤ y))).nodup_iff.2 h1
 exact List.Pairwise.map ofB (fun a b hab e => hab (by have := congrArg bl e; exact this)) h2
theorem sortdS_inc {l : List ByteArray} (h : l.Nodup) : Inc (sortdS l) :=
 List.Pairwise.imp₂ (fun a b hle hne => lt_of_le_ne hle (fun e => hne (bl_inj e))) (sortdS_le l) (sortdS_nodup h)
theorem SameText_self (l : List ByteArray) (hl : l.length ≤ 1000000) : Ev (fun k => r14_SameText.f k l l) true := by
 have key : ∀ d (i : Nat), i + d = l.length → Ev (fun k => r14_SameText.l0 k l l (i : Int)) true := by
  intro d
  induction d with
  | zero =>
   intro i hi
   exact Ev.step (f := fun _ => some true) (fun k => by rw [r14_SameText.l0, if_neg (by omega)]) (Ev.now _)
  | succ d ih =>
   intro i hi
   exact Ev.step (fun k => by rw [r14_SameText.l0, if_pos (show (i : Int) < (l.length : Int) by omega), if_pos (show (0 : Int) ≤ (i : Int) by omega), if_pos (show (i : Int) < (l.length : Int) by omega), if_pos rfl, w1 i (by omega)]) (ih (i + 1) (by omega))
 exact Ev.ite_pos rfl (key l.length 0 (by omega))

def fitG (g : GS) : Bool := decide (g.f1.length ≤ 20) && (decide (g.f2.length ≤ 20) && (decide (g.f0.size ≤ 100) && g.f2.all fun s => decide (s.size ≤ 100)))
def fewB (l : List GS) : Bool := decide (l.length ≤ 20) && l.all fitG
theorem fitG_iff (g : GS) : fitG g = true ↔ g.f1.length ≤ 20 ∧ g.f2.length ≤ 20 ∧ g.f0.size ≤ 100 ∧ ∀ s ∈ g.f2, s.size ≤ 100 := by
 simp [fitG, List.all_eq_true]
theorem few_of {l : List GS} (hl : l.length ≤ 40) (h : ∀ g ∈ l, fitG g = true) : Few l :=
 ⟨hl, fun g hg => ((fitG_iff g).1 (h g hg)).1, fun g hg => ((fitG_iff g).1 (h g hg)).2.1, fun g hg => ((fitG_iff g).1 (h g hg)).2.2.1, fun g hg => ((fitG_iff g).1 (h g hg)).2.2.2⟩
theorem fewB_of {l : List GS} (h : fewB l = true) : l.length ≤ 20 ∧ (∀ g ∈ l, fitG g = true) ∧ Few l := by
 obtain ⟨h1, h2⟩ := Bool.and_eq_true_iff.1 h
 have h3 := of_decide_eq_true h1
 have h4 := List.all_eq_true.1 h2
 exact ⟨h3, h4, few_of (by omega) h4⟩
theorem few_is (l : List GS) : Ev (fun k => l43_few.f k l) (fewB l) := by
 rw [fewB]
 by_cases c : l.length ≤ 20
 ·rw [decide_eq_true c, Bool.true_and]
  refine Ev.ite_neg (by omega) ?_
  have key : ∀ d (i : Nat), i + d = l.length → Ev (fun k => l43_few.l0 k l (i : Int)) ((l.drop i).all fitG) := by
   intro d
   induction d with
   | zero =>
    intro i hi
    rw [List.drop_of_length_le (by omega)]
    exact Ev.step (f := fun _ => some true) (fun k => by rw [l43_few.l0, if_neg (by omega)]) (Ev.now _)
   | succ d ih =>
    intro i hi
    have hlt : i < l.length := by omega
    have bad : Ev (fun k => l43_few.j1 k l (i : Int) true) false := Ev.step (f := fun _ => some false) (fun k => by rw [l43_few.j1, if_pos rfl]) (Ev.now _)
    have go : l[i].f2.length ≤ 20 → Ev (fun k => l43_few.l1 k l (i : Int) 0) ((l[i].f2.all fun s => decide (s.size ≤ 100)) && (l.drop (i + 1)).all fitG) := by
     intro hg
     have k2 : ∀ e (j : Nat), j + e = l[i].f2.length → Ev (fun k => l43_few.l1 k l (i : Int) (j : Int)) (((l[i].f2.drop j).all fun s => decide (s.size ≤ 100)) && (l.drop (i + 1)).all fitG) := by
      intro e
      induction e with
      | zero =>
       intro j hj
       rw [List.drop_of_length_le (show l[i].f2.length ≤ j by omega), List.all_nil, Bool.true_and]
       exact Ev.step (fun k => by rw [l43_few.l1, if_pos (show (0 : Int) ≤ (i : Int) by omega), if_pos (show (i : Int) < (l.length : Int) by omega), rdG_nat l i hlt, if_neg (by omega), w1 i (by omega)]) (ih (i + 1) (by omega))
      | succ e ih2 =>
       intro j hj
       have hj2 : j < l[i].f2.length := by omega
       rw [List.drop_eq_getElem_cons hj2, List.all_cons]
       refine Ev.step (fun k => by rw [l43_few.l1, if_pos (show (0 : Int) ≤ (i : Int) by omega), if_pos (show (i : Int) < (l.length : Int) by omega), rdG_nat l i hlt, if_pos (by omega), if_pos (by omega), rdOf_nat _ _ j hj2, w1 j (by omega)]) ?_
       by_cases c2 : (l[i].f2)[j].size ≤ 100
       ·rw [decide_eq_true c2, Bool.true_and]; exact Ev.ite_neg (by omega) (ih2 (j + 1) (by omega))
       ·rw [decide_eq_false c2, Bool.false_and, Bool.false_and]; exact Ev.ite_pos (by omega) (Ev.now _)
     have := k2 _ 0 (by rw [Nat.zero_add])
     rw [List.drop_zero] at this
     exact this
    rw [List.drop_eq_getElem_cons hlt, List.all_cons, fitG]
    refine Ev.step (fun k => by rw [l43_few.l0, if_pos (show (i : Int) < (l.length : Int) by omega), if_pos (show (0 : Int) ≤ (i : Int) by omega), rdG_nat l i hlt]) ?_
    by_cases c1 : l[i].f1.length ≤ 20
    ·rw [decide_eq_true c1, Bool.true_and]
     refine Ev.ite_neg (by omega) ?_
     by_cases c2 : l[i].f2.length ≤ 20
     ·rw [decide_eq_true c2, Bool.true_and]
      refine Ev.ite_neg (by omega) ?_
      by_cases c3 : l[i].f0.size ≤ 100
      ·rw [decide_eq_true c3, Bool.true_and, decide_eq_false (by omega)]
       exact Ev.step (fun k => by rw [l43_few.j1, if_neg (by decide)]) (go c2)
      ·rw [decide_eq_false c3, Bool.false_and, Bool.false_and, decide_eq_true (by omega)]; exact bad
     ·rw [decide_eq_false c2, Bool.false_and, Bool.false_and]; exact Ev.ite_pos (by omega) bad
    ·rw [decide_eq_false c1, Bool.false_and, Bool.false_and]; exact Ev.ite_pos (by omega) bad
  have := key l.length 0 (by omega)
  rw [List.drop_zero] at this
  exact this
 ·rw [decide_eq_false c, Bool.false_and]; exact Ev.ite_pos (by omega) (Ev.now _)
theorem SameGroup_self (g : GS) (h1 : g.f1.length ≤ 1000) (h2 : g.f2.length ≤ 1000) : Ev (fun k => r43_SameGroup.f k g.f0 g.f1 g.f2 g.f0 g.f1 g.f2) true := by
 have key : ∀ d (i : Nat), i + d = g.f2.length → Ev (fun k => r43_SameGroup.l0 k (i : Int) g.f0 g.f1 g.f2 g.f0 g.f1 g.f2) true := by
  intro d
  induction d with
  | zero =>
   intro i hi
   exact Ev.step (f := fun _ => some true) (fun k => by rw [r43_SameGroup.l0, if_neg (by omega)]) (Ev.now _)
  | succ d ih =>
   intro i hi
   exact Ev.step (fun k => by rw [r43_SameGroup.l0, if_pos (show (i : Int) < (g.f2.length : Int) by omega), if_pos (show (0 : Int) ≤ (i : Int) by omega), if_pos (show (i : Int) < (g.f2.length : Int) by omega), if_pos rfl, w1 i (by omega)]) (ih (i + 1) (by omega))
 refine Ev.ite_pos rfl (Ev.bind (Same_self g.f1 (by omega)) (Ev.ite_pos rfl ?_))
 exact Ev.step (fun k => by rw [r43_SameGroup.j0, if_neg (by simp)]; rfl) (key g.f2.length 0 (by omega))
theorem SameG_self (l : List GS) (hl : l.length ≤ 1000) (h : ∀ g ∈ l, g.f1.length ≤ 1000 ∧ g.f2.length ≤ 1000) : Ev (fun k => r43_Same.f k l l) true := by
 have key : ∀ d (i : Nat), i + d = l.length → Ev (fun k => r43_Same.l0 k l l (i : Int)) true := by
  intro d
  induction d with
  | zero =>
   intro i hi
   exact Ev.step (f := fun _ => some true) (fun k => by rw [r43_Same.l0, if_neg (by omega)]) (Ev.now _)
  | succ d ih =>
   intro i hi
   have hlt : i < l.length := by omega
   have hg := h l[i] (List.getElem_mem _)
   exact Ev.step (fun k => by rw [r43_Same.l0, if_pos (show (i : Int) < (l.length : Int) by omega), if_pos (show (0 : Int) ≤ (i : Int) by omega), if_pos (show (i : Int) < (l.length : Int) by omega), rdG_nat l i hlt, w1 i (by omega)]) (Ev.bind (SameGroup_self l[i] hg.1 hg.2) (Ev.ite_pos rfl (ih (i + 1) (by omega))))
 exact Ev.ite_pos rfl (key l.length 0 (by omega))
theorem SameG_few {l : List GS} (hf : Few l) : Ev (fun k => r43_Same.f k l l) true :=
 SameG_self l (by have := hf.len; omega) (fun g hg => ⟨by have := hf.users g hg; omega, by have := hf.groups g hg; omega⟩)
theorem ev_pick {α : Type} (c : Prop) [Decidable c] (a b : α) : Ev (fun _ => if c then some a else some b) (if c then a else b) := by
 by_cases h : c
 ·rw [if_pos h, if_pos h]; exact Ev.now _
 ·rw [if_neg h, if_neg h]; exact Ev.now _
def setT (l : List GS) (g : GS) : List GS := if idxG g.f0 l 0 < 0 then l ++ [g] else l.set (idxG g.f0 l 0).toNat g
def setR (l : List GS) (g : GS) : List GS × Int := if rightT (setT l g) = 0 then (setT l g, 0) else ([], rightT (setT l g))
theorem mem_setT {l : List GS} {g x : GS} (h : x ∈ setT l g) : x ∈ l ∨ x = g := by
 rw [setT] at h
 split at h
 ·rcases List.mem_append.1 h with h | h
  ·exact .inl h
  ·exact .inr (List.mem_singleton.1 h)
 ·exact List.mem_or_eq_of_mem_set h
theorem setT_len (l : List GS) (g : GS) : (setT l g).length ≤ l.length + 1 := by
 rw [setT]; split
 ·rw [List.length_append, List.length_singleton]; exact Nat.le_refl _
 ·rw [List.length_set]; exact Nat.le_succ _
theorem setT_few {l : List GS} {g : GS} (hl : l.length ≤ 20) (h : ∀ x ∈ l, fitG x = true) (hg : fitG g = true) : Few (setT l g) :=
 few_of (by have := setT_len l g; omega) (fun x hx => (mem_setT hx).elim (h x) (fun e => by rw [e]; exact hg))
theorem idx_lt (l : List GS) (s : ByteArray) : idxG s l 0 < (l.length : Int) := by
 rcases idx_spec l s with ⟨_, h⟩ | ⟨i, hi, h, _⟩ <;> rw [h] <;> omega
theorem Set_is (l : List GS) (g : GS) (hl : l.length ≤ 20) (hf : Few (setT l g)) : Ev (fun k => group_Set.f k l g.f0 g.f1 g.f2) (setR l g) := by
 have hi := idx_lt l g.f0
 have idx : Ev (fun k => group_idx.f k l g.f0) (idxG g.f0 l 0) := ⟨l.length + 1, fun k hk => by
  show group_idx.f k l g.f0 = _
  rw [group_idx.f, if_pos ⟨by omega, by omega⟩]⟩
 have R := Right_is _ hf
 refine Ev.bind_eq (a := l) ?_ (Ev.bind idx ?_)
 ·rw [api_Group_49.f]; exact if_pos (by rw [List.length_nil]; omega)
 rw [setR]
 by_cases c : idxG g.f0 l 0 < 0
 ·have e : setT l g = l ++ [g] := by rw [setT, if_pos c]
  rw [e] at R ⊢
  refine Ev.ite_pos c (Ev.ite_pos (by omega) (Ev.some_bind (Ev.bind R ?_)))
  exact ev_pick _ _ _
 ·have e : setT l g = l.set (idxG g.f0 l 0).toNat g := by rw [setT, if_neg c]
  rw [e] at R ⊢
  refine Ev.ite_neg c (Ev.ite_pos (by omega) (Ev.ite_pos hi (Ev.some_bind (Ev.bind R ?_))))
  exact ev_pick _ _ _
def heldB (s : ByteArray) (gs : List GS) : Bool := gs.any fun g => decide (s ∈ g.f2)
def dropT (l : List GS) (s : ByteArray) : List GS × Int := if (findG l s).isSome = true then if heldB s l = true then ([], 15) else (keepG s l, 0) else ([], 8)
theorem dropL_is (s : ByteArray) : ∀ gs : List GS, (∀ g ∈ gs, g.f2.length ≤ 1000) → Ev (fun k => dropL k s gs) (heldB s gs)
 | [], _ => Ev.now _
 | g :: gs, h => by
  rw [heldB, any_cons]
  refine Ev.bind (ContainsS_is g.f2 s (by have := h g List.mem_cons_self; omega)) ?_
  by_cases c : s ∈ g.f2
  ·rw [decide_eq_true c, Bool.true_or]; exact Ev.ite_pos rfl (Ev.now _)
  ·rw [decide_eq_false c, Bool.false_or]; exact Ev.ite_neg (by decide) (dropL_is s gs (fun x hx => h x (List.mem_cons_of_mem _ hx)))
theorem Drop_is (l : List GS) (hf : Few l) (s : ByteArray) : Ev (fun k => group_Drop.f k l s) (dropT l s) := by
 refine Ev.ite_pos (by have := hf.len; omega) (Ev.bind (dropL_is s l (fun g hg => by have := hf.groups g hg; omega)) ?_)
 rw [dropT]
 by_cases c1 : (findG l s).isSome = true
 ·rw [if_pos c1, if_pos c1]; exact ev_pick _ _ _
 ·rw [if_neg c1, if_neg c1]; exact Ev.now _
theorem firstT_zero (l : List GS) : ∀ (gs : List GS) (i : Nat), l.drop i = gs → firstT l gs i = 0 → ∀ j (hj : j < l.length), i ≤ j → oneT l j l[j] = 0
 | [], i, h, _, j, hj, hij => by have := congrArg List.length h; rw [List.length_drop, List.length_nil] at this; omega
 | g :: gs, i, h, h0, j, hj, hij => by
  have hlt : i < l.length := by omega
  rw [List.drop_eq_getElem_cons hlt] at h
  injection h with h1 h2
  rw [firstT] at h0
  by_cases c : oneT l i g = 0
  ·rw [if_pos c] at h0
   rcases Nat.eq_or_lt_of_le hij with rfl | hij
   ·rw [h1]; exact c
   ·exact firstT_zero l gs (i + 1) h2 h0 j hj hij
  ·rw [if_neg c] at h0; exact absurd h0 c
structure Good (l : List GS) : Prop where
 names : (l.map (·.f0)).Nodup
 subs : ∀ g ∈ l, ∀ n ∈ g.f2, (findG l n).isSome = true
 noLoop : NoLoop l
 deep : ∀ g ∈ l, deepT l g.f0 ≤ 12
 len : l.length ≤ 16
theorem good_of {l : List GS} (h : rightT l = 0) : Good l := by
 rw [rightT] at h
 by_cases c : l.length > 16
 ·rw [if_pos c] at h; cases h
 rw [if_neg c] at h
 by_cases c1 : firstT l l 0 = 0
 ·rw [if_pos c1] at h
  by_cases c2 : loopB l l = true
  ·rw [if_pos c2] at h; cases h
  rw [if_neg c2] at h
  by_cases c3 : deepB l l = true
  ·rw [if_pos c3] at h; cases h
  have one := firstT_zero l l 0 List.drop_zero c1
  have hone : ∀ j (hj : j < l.length), (findG (l.take j) l[j].f0).isSome = false ∧ hasB l l[j].f2 = true := by
   intro j hj
   have := one j hj (Nat.zero_le _)
   rw [oneT, memT] at this
   by_cases d1 : simpleB l[j].f0 = true
   ·rw [if_pos d1] at this
    by_cases d2 : (findG (l.take j) l[j].f0).isSome = true
    ·rw [if_pos d2] at this; cases this
    ·rw [if_neg d2] at this
     refine ⟨Bool.eq_false_iff.2 d2, ?_⟩
     split at this
     ·cases this
     ·split at this
      ·split at this
       ·split at this
        ·split at this
         ·assumption
         ·cases this
        ·cases this
       ·cases this
      ·cases this
   ·rw [if_neg d1] at this; cases this
  refine ⟨?_, ?_, noLoop_of (Bool.eq_false_iff.2 c2), ?_, by omega⟩
  ·have key : ∀ i, i ≤ l.length → ((l.map (·.f0)).take i).Nodup := by
    intro i
    induction i with
    | zero => intro _; simp
    | succ i ih =>
     intro hi
     refine nodup_take _ i (by rw [List.length_map]; omega) (ih (by omega)) (fun hm => ?_)
     rw [List.getElem_map, ← List.map_take] at hm
     obtain ⟨g, hg, he⟩ := List.mem_map.1 hm
     have := (hone i (by omega)).1
     rw [findG, List.find?_isSome.2 ⟨g, hg, decide_eq_true he⟩] at this
     cases this
   have := key l.length (Nat.le_refl _)
   rwa [List.take_of_length_le (by rw [List.length_map]; exact Nat.le_refl _)] at this
  ·intro g hg n hn
   obtain ⟨j, hj, rfl⟩ := List.mem_iff_getElem.1 hg
   exact List.all_eq_true.1 (hone j hj).2 n hn
  ·intro g hg
   have := List.any_eq_false.1 (Bool.eq_false_iff.2 c3) g hg
   simp at this
   omega
 ·rw [if_neg c1] at h; exact absurd h c1
theorem find_at {l : List GS} (hn : (l.map (·.f0)).Nodup) (i : Nat) (hi : i < l.length) : findG l l[i].f0 = some l[i] := by
 rcases idx_spec l l[i].f0 with ⟨h1, h2⟩ | ⟨a, ha, h2, h1, h3, h4⟩
 ·have := List.find?_eq_none.1 h1 l[i] (List.getElem_mem _)
  exact absurd (decide_eq_true rfl) this
 ·rw [h1]
  have : a = i := (List.getElem_inj (h₀ := by rw [List.length_map]; exact ha) (h₁ := by rw [List.length_map]; exact hi) hn).1 (by rw [List.getElem_map, List.getElem_map]; exact h3)
  subst this; rfl

abbrev nA : ByteArray := ⟨#[97]⟩
abbrev nB : ByteArray := ⟨#[98]⟩
abbrev nC : ByteArray := ⟨#[99]⟩
abbrev nD : ByteArray := ⟨#[100]⟩
abbrev ex43 : List GS := [⟨nA, [1, 2], [nB]⟩, ⟨nB, [2, 3], [nC]⟩, ⟨nC, [4], []⟩]
instance decGS : DecidableEq GS := fun a b => decidable_of_decidable_of_iff (p := a.f0 = b.f0 ∧ a.f1 = b.f1 ∧ a.f2 = b.f2) (by cases a; cases b; simp)
theorem uniq_lit {a c : List Int} (hc : c.Pairwise (· < ·)) (h : ∀ x, x ∈ c ↔ x ∈ a) : uniq a = c := srt_ext (uniq_srt _) hc (fun x => by rw [mem_uniq, h])
set_option maxRecDepth 100000 in
theorem al_few : ∀ g ∈ ex43, fitG g = true := by decide +kernel
theorem al_few' : Few ex43 := few_of (by decide) al_few
set_option maxRecDepth 100000 in
theorem al_right : rightT ex43 = 0 := by decide +kernel
set_option maxRecDepth 100000 in
theorem al_usersA : usersT ex43 nA = [1, 2, 3, 4] := by
 rw [usersT, allUsers, show usersG ex43 nA ++ (insideT ex43 nA).flatMap (usersG ex43) = [1, 2, 2, 3, 4] by decide +kernel]
 exact uniq_lit (by decide) (fun x => by simp)
set_option maxRecDepth 100000 in
theorem al_usersB : usersT ex43 nB = [2, 3, 4] := by
 rw [usersT, allUsers, show usersG ex43 nB ++ (insideT ex43 nB).flatMap (usersG ex43) = [2, 3, 4] by decide +kernel]
 exact uniq_lit (by decide) (fun x => by simp)
set_option maxRecDepth 100000 in
theorem al_usersC : usersT ex43 nC = [4] := by
 rw [usersT, allUsers, show usersG ex43 nC ++ (insideT ex43 nC).flatMap (usersG ex43) = [4] by decide +kernel]
 exact uniq_lit (by decide) (fun x => by simp)
theorem al_of : ofT ex43 4 = [nA, nB, nC] := by
 have : namesU ex43 4 ex43 = [nA, nB, nC] := by
  rw [namesU_cons, if_pos (by rw [al_usersA]; decide), namesU_cons, if_pos (by rw [al_usersB]; decide), namesU_cons, if_pos (by rw [al_usersC]; decide)]
  rfl
 rw [ofT, this]
 exact inc_ext (sortdS_inc (by decide)) (by unfold Inc; decide) (fun x => sortdS_mem _ x)
set_option maxRecDepth 100000 in
theorem al_deep : deepT ex43 nA = 3 := by decide +kernel
abbrev gL : GS := ⟨nC, [], [nA]⟩
set_option maxRecDepth 100000 in
theorem al_set : (setR ex43 gL).2 = 10 := by decide +kernel
set_option maxRecDepth 100000 in
theorem al_dropB : (dropT ex43 nB).2 = 15 := by decide +kernel
set_option maxRecDepth 100000 in
theorem al_dropA : dropT ex43 nA = (ex43.drop 1, 0) := by decide +kernel
set_option maxRecDepth 100000 in
theorem al_dropD : (dropT ex43 nD).2 = 8 := by decide +kernel
set_option maxRecDepth 100000 in
theorem al_form : rightT [⟨⟨#[120, 47, 121]⟩, [], []⟩] = 3 := by decide +kernel
set_option maxRecDepth 100000 in
theorem al_range : rightT [⟨⟨#[120]⟩, [0], []⟩] = 2 := by decide +kernel
set_option maxRecDepth 100000 in
theorem al_twice : rightT [⟨⟨#[120]⟩, [1, 1], []⟩] = 7 := by decide +kernel
theorem al_R (l : List GS) (r : Int) (h : ∀ g ∈ l, fitG g = true) (hl : l.length ≤ 20) (hr : rightT l = r) : Ev (fun k => group_Right.f k l) r := hr ▸ Right_is l (few_of (by omega) h)
theorem alive43 : Ev (fun k => l43_alive.f k) true := by
 have hf := al_few'
 have hn := (good_of al_right).noLoop
 have U := Users_is ex43 hf nA
 rw [al_usersA] at U
 have O := Of_is ex43 hf 4
 rw [al_of] at O
 have D := Depth_is ex43 hf hn nA (by decide)
 rw [al_deep] at D
 have I1 := In_is ex43 hf nB 4
 rw [al_usersB] at I1
 have I2 := In_is ex43 hf nC 1
 rw [al_usersC] at I2
 have St := Set_is ex43 gL (by decide) (setT_few (by decide) al_few (by decide +kernel))
 have DB := Drop_is ex43 hf nB
 have DA := Drop_is ex43 hf nA
 have DD := Drop_is ex43 hf nD
 rw [al_dropA] at DA
 refine Ev.bind_eq (a := ex43) rfl (Ev.bind (al_R ex43 0 al_few (by decide) al_right) (Ev.ite_pos rfl (Ev.bind U (Ev.bind (Same_self _ (by decide)) (Ev.ite_pos rfl (Ev.bind O (Ev.bind (SameText_self _ (by decide)) (Ev.ite_pos rfl ?_))))))))
 refine Ev.bind D (Ev.ite_pos rfl (Ev.bind I1 (Ev.ite_pos (by decide) (Ev.bind I2 (Ev.ite_neg (by decide) ?_)))))
 refine Ev.bind St (Ev.bind DB (Ev.bind DA (Ev.bind DD (Ev.ite_pos al_set (Ev.ite_pos al_dropB (Ev.ite_pos rfl (Ev.ite_pos al_dropD (Ev.ite_pos (by decide) ?_))))))))
 refine Ev.bind (SameG_self (ex43.drop 1) (by decide) (by decide)) (Ev.ite_pos rfl ?_)
 refine Ev.bind (al_R _ 3 (by decide +kernel) (by decide) al_form) (Ev.ite_pos rfl (Ev.bind (al_R _ 2 (by decide +kernel) (by decide) al_range) (Ev.ite_pos rfl (Ev.bind (al_R _ 7 (by decide +kernel) (by decide) al_twice) ?_))))
 exact Ev.now _
end Go.Proofs.YtobdkgoapcbipaaGreatDoor.Q
