/- What the laws of this chapter share, over lists. -/
import Derived.Test.YtgadbpljlpclnaaGreatDoorQGen
import Derived.Test.YtgadbpljlpclnaaGreatDoorHQSetS
import Derived.Lib.IndexLaws
import Derived.Test.YtgadbpljlpclnaaGreatDoorHx10
import Derived.Test.YtgadbpljlpclnaaGreatDoorHx4
import Derived.Sort.Walk0
import Derived.Test.YtgadbpljlpclnaaGreatDoorHx11
import Derived.Test.YtgadbpljlpclnaaGreatDoorHx5
import Derived.Test.YtgadbpljlpclnaaGreatDoorHx14
import Derived.Test.YtgadbpljlpclnaaGreatDoorHx27
import Derived.Test.YtgadbpljlpclnaaGreatDoorHx3
import Derived.Test.YtgadbpljlpclnaaGreatDoorHx12
import Derived.Test.YtgadbpljlpclnaaGreatDoorHx6
import Derived.Test.YtgadbpljlpclnaaGreatDoorHx13
import Derived.Test.YtgadbpljlpclnaaGreatDoorHx16
import Derived.Test.YtgadbpljlpclnaaGreatDoorHx8
import Derived.Test.YtgadbpljlpclnaaGreatDoorHx18
import Derived.Test.YtgadbpljlpclnaaGreatDoorHQSet05
import Derived.Test.YtgadbpljlpclnaaGreatDoorHx15
import Derived.Test.YtgadbpljlpclnaaGreatDoorHx20
import Derived.Test.YtgadbpljlpclnaaGreatDoorHx19
import Derived.Test.YtgadbpljlpclnaaGreatDoorHx28
import Derived.Test.YtgadbpljlpclnaaGreatDoorHx29
import Derived.Test.YtgadbpljlpclnaaGreatDoorQRead
import Derived.KernelRfl
namespace Go.Proofs.YtgadbpljlpclnaaGreatDoor.Q
open Go.RowKit Go.Proofs.YtgadbpljlpclnaaGreatDoorW.PrintWords Go.Proofs.YtgadbpljlpclnaaGreatDoorW.PrintLast Go.Proofs.YtgadbpljlpclnaaGreatDoorW.PrintMore Go.Proofs.YtgadbpljlpclnaaGreatDoor.H
set_option linter.unusedVariables false
set_option linter.unusedSimpArgs false
theorem bl_len (s : ByteArray) : (bl s).length = s.size := rfl
theorem toList_bl (s : ByteArray) : s.toList = bl s := ByteArray.toList_eq s
theorem toList_eq_iff {s t : ByteArray} : s.toList = t.toList ↔ s = t := by
 rw [toList_bl, toList_bl]; exact ⟨bl_inj, fun h => by rw [h]⟩
theorem bl_ext (s : ByteArray) (a b : Nat) : bl (s.extract a b) = ((bl s).drop a).take (b - a) := by
 unfold bl
 rw [ByteArray.data_extract, Array.toList_extract, List.extract_eq_take_drop]
theorem bt_bl (s : ByteArray) (j : Nat) (h : j < (bl s).length) : bt s (j : Int) = (((bl s)[j]).toNat : Int) := by
 have h' : j < s.size := h
 rw [bt, dif_pos (show ((j : Int)).toNat < s.size from h')]
 rfl
def okc (c : UInt8) : Bool := (97 ≤ c && c ≤ 122) || (65 ≤ c && c ≤ 90) || (48 ≤ c && c ≤ 57) || c == 46 || c == 95 || c == 45
set_option maxRecDepth 100000 in
theorem letter_is (c : UInt8) : glob_letter.f (c.toNat : Int) = some (okc c) := by
 have key : ∀ n : Fin 256, glob_letter.f ((n.val : Nat) : Int) = some (okc (UInt8.ofNat n.val)) := by decide +kernel
 have h := key ⟨c.toNat, c.toNat_lt⟩
 rwa [UInt8.ofNat_toNat] at h
def okname (p : List UInt8) : Bool := decide (1 ≤ p.length) && (decide (p.length ≤ 24) && (decide (p ≠ [46]) && (decide (p ≠ [46, 46]) && p.all okc)))
def split47 : List UInt8 → List (List UInt8)
 | [] => [[]]
 | c :: l => if c = 47 then [] :: split47 l else match split47 l with
  | [] => [[c]]
  | p :: ps => (c :: p) :: ps
theorem split_none : ∀ {l : List UInt8}, (47 : UInt8) ∉ l → split47 l = [l]
 | [], _ => rfl
 | c :: l, h => by
  rw [List.mem_cons, not_or] at h
  rw [split47, if_neg (fun e => h.1 e.symm), split_none h.2]
theorem split_at : ∀ {p : List UInt8} (r : List UInt8), (47 : UInt8) ∉ p → split47 (p ++ 47 :: r) = p :: split47 r
 | [], r, _ => by rw [List.nil_append, split47, if_pos rfl]
 | c :: p, r, h => by
  rw [List.mem_cons, not_or] at h
  rw [List.cons_append, split47, if_neg (fun e => h.1 e.symm), split_at r h.2]
def validP (s : ByteArray) : Bool := decide (s.size ≤ 60) && (split47 (bl s)).all okname
theorem idx_of {l : List UInt8} (h : 0 < l.count 47) : ∃ o : Nat, Lib.indexByte l 47 = (o : Int) ∧ o < l.length ∧ (47 : UInt8) ∉ l.take o ∧ l = l.take o ++ 47 :: l.drop (o + 1) := by
 have h1 := Lib.indexByte_ge l 47
 have hne : Lib.indexByte l 47 ≠ -1 := by
  intro e
  have h2 := Lib.indexByte_none e
  obtain ⟨i, hi, e2⟩ := List.mem_iff_getElem.1 (List.count_pos_iff.1 h)
  exact h2 i (by rw [List.getElem?_eq_getElem hi, e2])
 obtain ⟨o, ho⟩ : ∃ o : Nat, Lib.indexByte l 47 = (o : Int) := ⟨(Lib.indexByte l 47).toNat, by omega⟩
 obtain ⟨h2, h3⟩ := Lib.indexByte_some ho
 obtain ⟨hlt, he⟩ := List.getElem?_eq_some_iff.1 h2
 refine ⟨o, ho, hlt, fun hm => ?_, ?_⟩
 ·obtain ⟨i, hi, e2⟩ := List.mem_iff_getElem.1 hm
  rw [List.length_take] at hi
  refine h3 i (by omega) ?_
  rw [List.getElem?_eq_getElem (by omega), ← e2, List.getElem_take]
 ·rw [← he, ← List.drop_eq_getElem_cons hlt, List.take_append_drop]
theorem sepSize : ((⟨#[47]⟩ : ByteArray).size : Int) = 1 := rfl
theorem index47 (s : ByteArray) : strings_Index.f s ⟨#[47]⟩ = some (Lib.indexByte (bl s) 47) := by
 rw [strings_Index.f, if_pos (show (⟨#[47]⟩ : ByteArray).size = 1 from rfl)]; rfl
theorem gen_l0 : ∀ (d : Nat) (rest : ByteArray) (dn tl : List ByteArray), (bl rest).count 47 = d → tl.length = d + 1 → rest.size ≤ 100000 → dn.length + d ≤ 100000 →
  Ev (fun k => strings_genSplit.l0 k rest ⟨#[47]⟩ 0 ((dn.length + d : Nat) : Int) (dn ++ tl) (dn.length : Int)) (dn ++ (split47 (bl rest)).map ofB) := by
 intro d
 induction d with
 | zero =>
  intro rest dn tl hc ht hs hn
  have hno : (47 : UInt8) ∉ bl rest := by intro hm; have := List.count_pos_iff.2 hm; omega
  obtain ⟨v, rfl⟩ := List.length_eq_one_iff.1 ht
  refine Ev.step (f := fun _ => some (dn ++ (split47 (bl rest)).map ofB)) (fun k => ?_) (Ev.now _)
  have hlen : ((dn ++ [v]).length : Int) = (dn.length : Int) + 1 := by rw [List.length_append]; simp
  rw [strings_genSplit.l0, if_neg (by omega), if_pos (by omega), if_pos (by omega), w64 (by omega) (by omega), if_pos (by omega), if_pos (by omega), split_none hno]
  congr 1
  rw [Int.toNat_natCast, show ((dn.length : Int) + 1).toNat = dn.length + 1 by omega, List.set_append_right _ _ (Nat.le_refl _), Nat.sub_self, List.set_cons_zero, List.take_append, List.take_of_length_le (by omega)]
  simp [ofB_bl]
 | succ d ih =>
  intro rest dn tl hc ht hs hn
  obtain ⟨o, ho, hol, hno, hsp⟩ := idx_of (l := bl rest) (by omega)
  obtain ⟨v, tl', rfl⟩ : ∃ v tl', tl = v :: tl' := by cases tl with
   | nil => simp at ht
   | cons a b => exact ⟨a, b, rfl⟩
  rw [bl_len] at hol
  have hlen : ((dn ++ v :: tl').length : Int) = (dn.length : Int) + d + 2 := by rw [List.length_append]; simp at ht ⊢; omega
  have hr : bl (rest.extract (o + 1) rest.size) = (bl rest).drop (o + 1) := by
   rw [bl_ext, List.take_of_length_le]
   rw [List.length_drop, bl_len]
   omega
  have hp : bl (rest.extract 0 o) = (bl rest).take o := by rw [bl_ext, List.drop_zero, Nat.sub_zero]
  have hc2 : (bl (rest.extract (o + 1) rest.size)).count 47 = d := by
   rw [hr]
   have h1 := congrArg (List.count 47) hsp
   rw [List.count_append, List.count_cons_self, List.count_eq_zero_of_not_mem hno, hc] at h1
   omega
  have := ih (rest.extract (o + 1) rest.size) (dn ++ [rest.extract 0 o]) tl' hc2 (by simpa using ht) (by rw [ByteArray.size_extract]; omega) (by rw [List.length_append, List.length_singleton]; omega)
  rw [hr] at this
  refine Ev.step (fun k => ?_) (Ev.congr (fun k => rfl) (show Ev (fun k => strings_genSplit.l0 k (rest.extract (o + 1) rest.size) ⟨#[47]⟩ 0 ((dn.length + (d + 1) : Nat) : Int) ((dn ++ [rest.extract 0 o]) ++ tl') (((dn ++ [rest.extract 0 o]).length : Nat) : Int)) (dn ++ (split47 (bl rest)).map ofB) from ?_))
  ·rw [strings_genSplit.l0, if_pos (by omega), index47, Option.bind_some, ho, if_neg (by omega), sepSize, w64 (by omega) (by omega), if_pos (by omega), if_pos (by omega), if_pos (by omega), if_pos (by omega), w64 (by omega) (by omega), if_pos (by omega), if_pos (by omega), w64 (by omega) (by omega)]
   rw [show ((o : Int) + 1).toNat = o + 1 by omega, show ((o : Int) + 0).toNat = o by omega, Int.toNat_natCast, List.set_append_right _ _ (Nat.le_refl _), Nat.sub_self, List.set_cons_zero]
   rw [show ((dn ++ [rest.extract 0 o]).length : Int) = (dn.length : Int) + 1 by rw [List.length_append]; simp]
   rw [List.append_assoc]; rfl
  ·rw [List.length_append, List.length_singleton] at this ⊢
   rw [show dn.length + (d + 1) = dn.length + 1 + d by omega]
   have e : dn ++ (split47 (bl rest)).map ofB = (dn ++ [rest.extract 0 o]) ++ (split47 ((bl rest).drop (o + 1))).map ofB := by
    conv => lhs; rw [hsp]
    rw [split_at _ hno, List.map_cons, ← hp, ofB_bl, List.append_assoc]; rfl
   rw [e]
   exact this
theorem Split_is (s : ByteArray) (hs : s.size ≤ 60) : Ev (fun k => strings_Split.f k s ⟨#[47]⟩) ((split47 (bl s)).map ofB) := by
 have hc : (bl s).count 47 ≤ s.size := List.count_le_length
 refine Ev.congr (fun k => by rw [strings_Split.f, strings_genSplit.f, if_neg (by decide), if_neg (show ¬ (⟨#[47]⟩ : ByteArray).toList = [] by rw [ByteArray.toList_eq]; decide), if_pos (by decide)]) (Ev.bind (a := (split47 (bl s)).map ofB) ?_ (Ev.now _))
 have hcf : strings_Count.f s ⟨#[47]⟩ = some ((((bl s).count 47 : Nat)) : Int) := by rw [strings_Count.f, if_pos (show (⟨#[47]⟩ : ByteArray).size = 1 from rfl)]; rfl
 refine Ev.bind_eq hcf (Ev.step (fun k => by rw [strings_genSplit.j0]) ?_)
 have hm : mn (wrap64 ((((bl s).count 47 : Nat) : Int) + 1)) (wrap64 ((s.size : Int) + 1)) = (((bl s).count 47 : Nat) : Int) + 1 := by
  rw [w64 (by omega) (by omega), w64 (by omega) (by omega), mn_of]; omega
 rw [hm]
 refine Ev.ite_pos (by omega) (Ev.ite_pos (by omega) ?_)
 have := gen_l0 ((bl s).count 47) s [] (List.replicate ((bl s).count 47 + 1) ⟨#[]⟩) rfl (by simp) (by omega) (by simp; omega)
 rw [w64 (by omega) (by omega), show ((((bl s).count 47 : Nat) : Int) + 1).toNat = (bl s).count 47 + 1 by omega, show (((bl s).count 47 : Nat) : Int) + 1 - 1 = (((bl s).count 47 : Nat) : Int) by omega]
 simpa using this
theorem Valid_l1 (p : ByteArray) (parts : List ByteArray) (i : Nat) (r : Bool) (hp : p.size ≤ 100000) (hi : i ≤ 100000) (hr : Ev (fun k => glob_ValidPath.l0 k parts (parts.length : Int) ((i + 1 : Nat) : Int)) r) :
  ∀ d (j : Nat), j + d = p.size → Ev (fun k => glob_ValidPath.l1 k p (j : Int) parts (parts.length : Int) (i : Int)) (((bl p).drop j).all okc && r) := by
 intro d
 induction d with
 | zero =>
  intro j hj
  rw [List.drop_of_length_le (by rw [bl_len]; omega)]
  refine Ev.step (fun k => ?_) (by simpa using hr)
  rw [glob_ValidPath.l1, if_pos (by omega), w64 (by omega) (by omega)]
  try rfl
 | succ d ih =>
  intro j hj
  have hlt : j < (bl p).length := by rw [bl_len]; omega
  rw [drop_cons _ j hlt, List.all_cons]
  refine Ev.step (fun k => by rw [glob_ValidPath.l1, if_neg (by omega), if_pos (by omega), if_pos (by omega), bt_bl p j hlt, letter_is, Option.bind_some]) ?_
  by_cases h : okc (bl p)[j] = true
  ·rw [h, Bool.true_and]
   refine Ev.ite_pos (by trivial) (Ev.congr (fun k => ?_) (ih (j + 1) (by omega)))
   rw [w64 (by omega) (by omega)]; rfl
  ·rw [Bool.eq_false_iff.2 h]
   rw [Bool.false_and]
   exact Ev.ite_neg (by simp) (Ev.now _)
theorem Valid_l0 (parts : List ByteArray) (hn : parts.length ≤ 100000) (hs : ∀ p ∈ parts, p.size ≤ 100000) : ∀ d (i : Nat), i + d = parts.length →
  Ev (fun k => glob_ValidPath.l0 k parts (parts.length : Int) (i : Int)) ((parts.drop i).all fun p => okname (bl p)) := by
 intro d
 induction d with
 | zero =>
  intro i hi
  rw [List.drop_of_length_le (by omega)]
  refine Ev.step (f := fun _ => some true) (fun k => ?_) (Ev.now _)
  rw [glob_ValidPath.l0, if_neg (by omega)]
 | succ d ih =>
  intro i hi
  have hlt : i < parts.length := by omega
  rw [drop_cons parts i hlt, List.all_cons]
  refine Ev.step (fun k => by rw [glob_ValidPath.l0, if_pos (show (i : Int) < (parts.length : Int) by omega), if_pos (by omega), if_pos (show (i : Int) < (parts.length : Int) by omega), rdOf_nat _ _ i hlt]) ?_
  have hps := hs parts[i] (List.getElem_mem _)
  generalize parts[i] = p at hps
  have hf : okname (bl p) = false → Ev (fun k => glob_ValidPath.j1 k p parts (parts.length : Int) (i : Int) true) (okname (bl p) && ((parts.drop (i + 1)).all fun p => okname (bl p))) := by
   intro e
   rw [e, Bool.false_and]
   refine Ev.step (f := fun _ => some false) (fun k => ?_) (Ev.now _)
   rw [glob_ValidPath.j1, if_pos rfl]
  rw [toList_bl]
  by_cases h1 : bl p = [46]
  ·exact Ev.ite_pos h1 (hf (by rw [h1]; decide))
  refine Ev.ite_neg h1 ?_
  by_cases h2 : bl p = [46, 46]
  ·exact Ev.ite_pos h2 (hf (by rw [h2]; decide))
  refine Ev.ite_neg h2 ?_
  by_cases h3 : (p.size : Int) < 1
  ·exact Ev.ite_pos h3 (hf (by rw [okname, decide_eq_false (by rw [bl_len]; omega), Bool.false_and]))
  refine Ev.ite_neg h3 ?_
  by_cases h4 : (p.size : Int) > 24
  ·rw [decide_eq_true h4]
   exact hf (by rw [okname, decide_eq_false (show ¬ (bl p).length ≤ 24 by rw [bl_len]; omega), Bool.false_and, Bool.and_false])
  rw [decide_eq_false h4]
  have e : okname (bl p) = (bl p).all okc := by
   rw [okname, decide_eq_true (show 1 ≤ (bl p).length by rw [bl_len]; omega), decide_eq_true (show (bl p).length ≤ 24 by rw [bl_len]; omega), decide_eq_true h1, decide_eq_true h2]; simp
  rw [e]
  refine Ev.step (fun k => by rw [glob_ValidPath.j1, if_neg (by decide)]) ?_
  exact Valid_l1 p parts i _ hps (by omega) (ih (i + 1) (by omega)) p.size 0 (by omega)
theorem split_len : ∀ (l : List UInt8), (split47 l).length = l.count 47 + 1
 | [] => rfl
 | c :: l => by
  have ih := split_len l
  rw [split47]
  by_cases h : c = 47
  ·subst h
   rw [if_pos rfl, List.length_cons, ih, List.count_cons_self]
  ·rw [if_neg h, List.count_cons_of_ne h]
   cases hsp : split47 l with
   | nil => rw [hsp] at ih; simp at ih
   | cons p ps => rw [hsp] at ih; simpa using ih
theorem split_size : ∀ (l : List UInt8), ∀ p ∈ split47 l, p.length ≤ l.length
 | [] => by simp [split47]
 | c :: l => by
  have ih := split_size l
  intro p hp
  rw [split47] at hp
  by_cases h : c = 47
  ·rw [if_pos h, List.mem_cons] at hp
   rcases hp with rfl | hp
   ·simp
   ·have := ih p hp; rw [List.length_cons]; omega
  ·rw [if_neg h] at hp
   cases hsp : split47 l with
   | nil => have := split_len l; rw [hsp] at this; simp at this
   | cons q qs =>
    rw [hsp] at hp ih
    rcases List.mem_cons.1 hp with rfl | hp
    ·have := ih q List.mem_cons_self; rw [List.length_cons, List.length_cons]; omega
    ·have := ih p (List.mem_cons_of_mem _ hp); rw [List.length_cons]; omega
theorem ValidPath_is (s : ByteArray) : Ev (fun k => glob_ValidPath.f k s) (validP s) := by
 by_cases h : (s.size : Int) > 60
 ·refine Ev.congr (fun k => ?_) (Ev.now _)
  rw [glob_ValidPath.f, if_pos h, validP, decide_eq_false (by omega), Bool.false_and]
 ·have hs : s.size ≤ 60 := by omega
  refine Ev.congr (fun k => by rw [glob_ValidPath.f, if_neg h]) (Ev.bind (Split_is s hs) ?_)
  have hl := split_len (bl s)
  have hc : (bl s).count 47 ≤ s.size := List.count_le_length
  have := Valid_l0 ((split47 (bl s)).map ofB) (by rw [List.length_map]; omega) (fun p hp => by
   obtain ⟨q, hq, rfl⟩ := List.mem_map.1 hp
   have := split_size _ q hq
   rw [bl_len] at this
   show q.length ≤ 100000
   omega) ((split47 (bl s)).map ofB).length 0 (by omega)
  rw [List.drop_zero, List.all_map] at this
  rw [validP, decide_eq_true hs, Bool.true_and]
  exact this

theorem rLD_is (c : UInt8) : r02_Letter.f (c.toNat : Int) = some ((97 ≤ c && c ≤ 122) || (65 ≤ c && c ≤ 90)) ∧ r02_Digit.f (c.toNat : Int) = some (48 ≤ c && c ≤ 57) := by
 have key : ∀ n : Fin 256, r02_Letter.f ((n.val : Nat) : Int) = some ((97 ≤ UInt8.ofNat n.val && UInt8.ofNat n.val ≤ 122) || (65 ≤ UInt8.ofNat n.val && UInt8.ofNat n.val ≤ 90)) ∧ r02_Digit.f ((n.val : Nat) : Int) = some (48 ≤ UInt8.ofNat n.val && UInt8.ofNat n.val ≤ 57) := by decide +kernel
 have h := key ⟨c.toNat, c.toNat_lt⟩
 rwa [UInt8.ofNat_toNat] at h
theorem u8_eq (c : UInt8) (n : Nat) (h : n < 256) : ((c.toNat : Int) = (n : Int)) ↔ c = UInt8.ofNat n := by
 constructor
 ·intro e
  have e2 : c.toNat = n := by omega
  rw [← e2, UInt8.ofNat_toNat]
 ·intro e
  rw [e, UInt8.toNat_ofNat']
  omega
theorem rname_l0 (p : ByteArray) (hp : p.size ≤ 100000) : ∀ d (j : Nat), j + d = p.size → Ev (fun k => r02_name.l0 k p (j : Int)) (((bl p).drop j).all okc) := by
 intro d
 induction d with
 | zero =>
  intro j hj
  rw [List.drop_of_length_le (by rw [bl_len]; omega)]
  refine Ev.step (f := fun _ => some true) (fun k => ?_) (Ev.now _)
  rw [r02_name.l0, if_neg (by omega)]
 | succ d ih =>
  intro j hj
  have hlt : j < (bl p).length := by rw [bl_len]; omega
  have hn := ih (j + 1) (by omega)
  rw [drop_cons _ j hlt, List.all_cons]
  have hw : wrap64 ((j : Int) + 1) = ((j + 1 : Nat) : Int) := by rw [w64 (by omega) (by omega)]; rfl
  refine Ev.step (fun k => by rw [r02_name.l0, if_pos (by omega), if_pos (by omega), bt_bl p j hlt, (rLD_is _).1, Option.bind_some, hw]) ?_
  generalize (bl p)[j] = c
  by_cases h1 : ((97 ≤ c && c ≤ 122) || (65 ≤ c && c ≤ 90)) = true
  ·refine Ev.ite_pos h1 ?_
   rw [okc, h1]; simpa using hn
  refine Ev.ite_neg h1 (Ev.bind_eq (rLD_is c).2 ?_)
  by_cases h2 : (48 ≤ c && c ≤ 57) = true
  ·refine Ev.ite_pos h2 ?_
   rw [okc, h2]; simpa using hn
  refine Ev.ite_neg h2 ?_
  by_cases h3 : c = 46
  ·refine Ev.ite_pos ((u8_eq c 46 (by omega)).2 h3) ?_
   rw [okc, h3]; simpa using hn
  refine Ev.ite_neg (fun e => h3 ((u8_eq c 46 (by omega)).1 e)) ?_
  by_cases h4 : c = 95
  ·refine Ev.ite_pos ((u8_eq c 95 (by omega)).2 h4) ?_
   rw [okc, h4]; simpa using hn
  refine Ev.ite_neg (fun e => h4 ((u8_eq c 95 (by omega)).1 e)) ?_
  by_cases h5 : c = 45
  ·refine Ev.ite_pos ((u8_eq c 45 (by omega)).2 h5) ?_
   rw [okc, h5]; simpa using hn
  refine Ev.ite_neg (fun e => h5 ((u8_eq c 45 (by omega)).1 e)) ?_
  have e : okc c = false := by
   rw [okc, Bool.eq_false_iff.2 h1, Bool.eq_false_iff.2 h2, beq_eq_false_iff_ne.2 h3, beq_eq_false_iff_ne.2 h4, beq_eq_false_iff_ne.2 h5]; rfl
  rw [e, Bool.false_and]
  exact Ev.now _
theorem rname_is (p : ByteArray) (hp : p.size ≤ 100000) : Ev (fun k => r02_name.f k p) (okname (bl p)) := by
 have hf : okname (bl p) = false → Ev (fun k => r02_name.j0 k p true) (okname (bl p)) := by
  intro e
  rw [e]
  refine Ev.step (f := fun _ => some false) (fun k => ?_) (Ev.now _)
  rw [r02_name.j0, if_pos rfl]
 refine Ev.congr (fun k => by rw [r02_name.f, toList_bl]) ?_
 by_cases h3 : (p.size : Int) < 1
 ·exact Ev.ite_pos h3 (hf (by rw [okname, decide_eq_false (by rw [bl_len]; omega), Bool.false_and]))
 refine Ev.ite_neg h3 ?_
 by_cases h4 : (p.size : Int) > 24
 ·exact Ev.ite_pos h4 (hf (by rw [okname, decide_eq_false (show ¬ (bl p).length ≤ 24 by rw [bl_len]; omega), Bool.false_and, Bool.and_false]))
 refine Ev.ite_neg h4 ?_
 by_cases h1 : bl p = [46]
 ·exact Ev.ite_pos h1 (hf (by rw [h1]; decide))
 refine Ev.ite_neg h1 ?_
 by_cases h2 : bl p = [46, 46]
 ·rw [beq_iff_eq.2 h2]
  exact hf (by rw [h2]; decide)
 rw [beq_eq_false_iff_ne.2 h2]
 have e : okname (bl p) = (bl p).all okc := by
  rw [okname, decide_eq_true (show 1 ≤ (bl p).length by rw [bl_len]; omega), decide_eq_true (show (bl p).length ≤ 24 by rw [bl_len]; omega), decide_eq_true h1, decide_eq_true h2]; simp
 rw [e]
 refine Ev.step (fun k => by rw [r02_name.j0, if_neg (by decide)]) ?_
 exact rname_l0 p hp p.size 0 (by omega)
theorem rValid_l0 (s : ByteArray) (hs : s.size ≤ 100000) : ∀ d (b a : Nat), b + d = s.size → a ≤ b → (47 : UInt8) ∉ ((bl s).drop a).take (b - a) →
  Ev (fun k => r02_ValidPath.l0 k s (a : Int) (b : Int)) ((split47 ((bl s).drop a)).all okname) := by
 intro d
 induction d with
 | zero =>
  intro b a hb hab hno
  obtain rfl : b = s.size := by omega
  have hd : ((bl s).drop a).take (s.size - a) = (bl s).drop a := List.take_of_length_le (by rw [List.length_drop, bl_len]; omega)
  rw [hd] at hno
  have he : bl (s.extract a s.size) = (bl s).drop a := by rw [bl_ext, hd]
  refine Ev.step (fun k => by rw [r02_ValidPath.l0, if_pos (Int.le_refl _), if_pos rfl]) (Ev.step (fun k => by rw [r02_ValidPath.j1, if_pos rfl, if_pos (by omega), if_pos (by omega), if_pos (by omega), Int.toNat_natCast, Int.toNat_natCast]) ?_)
  have hn := rname_is (s.extract a s.size) (by rw [ByteArray.size_extract]; omega)
  rw [he] at hn
  rw [split_none hno, List.all_cons, List.all_nil, Bool.and_true]
  refine Ev.bind hn ?_
  by_cases h : okname ((bl s).drop a) = true
  ·rw [h]
   refine Ev.ite_pos rfl (Ev.step (f := fun _ => some true) (fun k => ?_) (Ev.now _))
   rw [r02_ValidPath.l0, w64 (by omega) (by omega), if_neg (by omega)]
  ·rw [Bool.eq_false_iff.2 h]
   exact Ev.ite_neg (by simp) (Ev.now _)
 | succ d ih =>
  intro b a hb hab hno
  have hlt : b < (bl s).length := by rw [bl_len]; omega
  have hw : wrap64 ((b : Int) + 1) = ((b + 1 : Nat) : Int) := by rw [w64 (by omega) (by omega)]; rfl
  refine Ev.step (fun k => by rw [r02_ValidPath.l0, if_pos (by omega), if_neg (by omega), if_pos (by omega), if_pos (by omega), bt_bl s b hlt]) ?_
  have hsp : (bl s).drop a = ((bl s).drop a).take (b - a) ++ (bl s)[b] :: (bl s).drop (b + 1) := by
   have h1 := List.take_append_drop (b - a) ((bl s).drop a)
   rw [List.drop_drop, show a + (b - a) = b by omega, drop_cons _ b hlt] at h1
   exact h1.symm
  by_cases h : (bl s)[b] = 47
  ·rw [show (((bl s)[b].toNat : Int) == 47) = true from beq_iff_eq.2 ((u8_eq _ 47 (by omega)).2 h)]
   have he : bl (s.extract a b) = ((bl s).drop a).take (b - a) := bl_ext s a b
   have hn := rname_is (s.extract a b) (by rw [ByteArray.size_extract]; omega)
   rw [he] at hn
   rw [h] at hsp
   refine Ev.step (fun k => by rw [r02_ValidPath.j1, if_pos rfl, if_pos (by omega), if_pos (by omega), if_pos (by omega), Int.toNat_natCast, Int.toNat_natCast, hw]) (Ev.bind hn ?_)
   rw [hsp, split_at _ hno, List.all_cons]
   rw [← hsp]
   by_cases h2 : okname (((bl s).drop a).take (b - a)) = true
   ·rw [h2, Bool.true_and]
    refine Ev.ite_pos rfl ?_
    exact ih (b + 1) (b + 1) (by omega) (Nat.le_refl _) (by rw [Nat.sub_self, List.take_zero]; simp)
   ·rw [Bool.eq_false_iff.2 h2, Bool.false_and]
    exact Ev.ite_neg (by simp) (Ev.now _)
  ·rw [show (((bl s)[b].toNat : Int) == 47) = false from beq_eq_false_iff_ne.2 (fun e => h ((u8_eq _ 47 (by omega)).1 e))]
   refine Ev.step (fun k => by rw [r02_ValidPath.j1, if_neg (by decide), hw]) ?_
   refine ih (b + 1) a (by omega) (by omega) ?_
   have h3 : ((bl s).drop a).take (b + 1 - a) = ((bl s).drop a).take (b - a) ++ [(bl s)[b]] := by
    rw [show b + 1 - a = (b - a) + 1 by omega, List.take_succ_eq_append_getElem (by rw [List.length_drop]; omega)]
    congr 2
    rw [List.getElem_drop]
    congr 1
    omega
   rw [h3, List.mem_append, not_or]
   exact ⟨hno, by rw [List.mem_singleton]; exact fun e => h e.symm⟩
theorem rValidPath_is (s : ByteArray) : Ev (fun k => r02_ValidPath.f k s) (validP s) := by
 by_cases h : (s.size : Int) > 60
 ·refine Ev.congr (fun k => ?_) (Ev.now _)
  rw [r02_ValidPath.f, if_pos h, validP, decide_eq_false (by omega), Bool.false_and]
 ·have hs : s.size ≤ 60 := by omega
  refine Ev.congr (fun k => by rw [r02_ValidPath.f, if_neg h]) ?_
  rw [validP, decide_eq_true hs, Bool.true_and]
  have := rValid_l0 s (by omega) s.size 0 0 (by omega) (Nat.le_refl _) (by rw [Nat.sub_self, List.take_zero]; simp)
  rw [List.drop_zero] at this
  exact this
def underP (p d : ByteArray) : Bool := decide (bl d = []) || decide (bl p = bl d ++ 47 :: (bl p).drop ((bl d).length + 1))
theorem bl_append (a b : ByteArray) : bl (a ++ b) = bl a ++ bl b := by
 unfold bl; rw [ByteArray.data_append, Array.toList_append]
theorem under_iff {p d : List UInt8} : p = d ++ 47 :: p.drop (d.length + 1) ↔ p.take (d.length + 1) = d ++ [47] := by
 constructor
 ·intro h
  rw [h, List.take_append, List.take_of_length_le (by omega), show d.length + 1 - d.length = 1 by omega]; rfl
 ·intro h
  have h1 := List.take_append_drop (d.length + 1) p
  rw [h, List.append_assoc] at h1
  exact h1.symm
--? glob_Under
theorem Under_is (p d : ByteArray) (hd : d.size ≤ 140737488351232) : glob_Under.f p d = some (underP p d) := by
 rw [glob_Under.f, underP, toList_bl]
 by_cases h0 : bl d = []
 ·rw [if_pos h0, decide_eq_true h0, Bool.true_or]
 rw [if_neg h0, if_pos (by omega), strings_HasPrefix.f, stringslite_HasPrefix.f, decide_eq_false h0, Bool.false_or]
 have hsz : (d ++ (⟨#[47]⟩ : ByteArray)).size = d.size + 1 := by rw [ByteArray.size_append]; rfl
 have hx : (bl p = bl d ++ 47 :: (bl p).drop ((bl d).length + 1)) ↔ (bl p).take ((bl d).length + 1) = bl d ++ [47] := under_iff
 by_cases h1 : (p.size : Int) ≥ ((d ++ (⟨#[47]⟩ : ByteArray)).size : Int)
 ·rw [if_pos h1, if_pos (by omega), if_pos h1, Option.bind_some, Option.bind_some, toList_bl, toList_bl, bl_ext, List.drop_zero, Nat.sub_zero, hsz, bl_append]
  congr 1
  rw [show (((d.size + 1 : Nat)) : Int).toNat = (bl d).length + 1 from rfl, decide_eq_decide.2 hx]
  by_cases h2 : (bl p).take ((bl d).length + 1) = bl d ++ [47]
  ·rw [decide_eq_true h2]; exact beq_iff_eq.2 h2
  ·rw [decide_eq_false h2]; exact beq_eq_false_iff_ne.2 h2
 ·rw [if_neg h1, Option.bind_some, Option.bind_some]
  congr 1
  symm
  rw [decide_eq_false_iff_not]
  intro e
  have h2 := congrArg List.length e
  rw [List.length_append, List.length_cons, bl_len, bl_len, List.length_drop, bl_len] at h2
  rw [hsz] at h1
  omega
theorem rUnder_is (p d : ByteArray) : r02_Under.f p d = some (underP p d) := by
 rw [r02_Under.f, underP, toList_bl]
 by_cases h0 : bl d = []
 ·rw [if_pos h0, decide_eq_true h0, Bool.true_or]
 rw [if_neg h0, decide_eq_false h0, Bool.false_or]
 by_cases h1 : (p.size : Int) > (d.size : Int)
 ·have hlt : d.size < (bl p).length := by rw [bl_len]; omega
  rw [if_pos h1, if_pos (by omega), if_pos (by omega), toList_bl, bl_ext, List.drop_zero, Nat.sub_zero, Int.toNat_natCast]
  have ht : (bl p).take (d.size + 1) = (bl p).take d.size ++ [(bl p)[d.size]] := List.take_succ_eq_append_getElem hlt
  by_cases h2 : (bl p).take d.size = bl d
  ·rw [if_pos h2, if_pos (by omega), bt_bl p d.size hlt]
   congr 1
   by_cases h3 : (bl p)[d.size] = 47
   ·rw [show (((bl p)[d.size].toNat : Int) == 47) = true from beq_iff_eq.2 ((u8_eq _ 47 (by omega)).2 h3)]
    symm
    rw [decide_eq_true_iff]
    refine under_iff.2 ?_
    rw [bl_len, ht, h2, h3]
   ·rw [show (((bl p)[d.size].toNat : Int) == 47) = false from beq_eq_false_iff_ne.2 (fun e => h3 ((u8_eq _ 47 (by omega)).1 e))]
    symm
    rw [decide_eq_false_iff_not]
    intro e
    have e2 := under_iff.1 e
    rw [bl_len, ht, h2] at e2
    exact h3 (by simpa using List.append_cancel_left e2)
  ·rw [if_neg h2]
   congr 1
   symm
   rw [decide_eq_false_iff_not]
   intro e
   have e2 := under_iff.1 e
   rw [bl_len, ht] at e2
   exact h2 (List.append_inj e2 (by rw [List.length_take, bl_len, bl_len]; rw [bl_len] at hlt; omega)).1
 ·rw [if_neg h1]
  congr 1
  symm
  rw [decide_eq_false_iff_not]
  intro e
  have h2 := congrArg List.length e
  rw [List.length_append, List.length_cons, bl_len, bl_len, List.length_drop, bl_len] at h2
  omega

abbrev FS := List S55
theorem rdF_nat (l : FS) (i : Nat) (h : i < l.length) : rd_T55 l (i : Int) = l[i] := by
 simp [rd_T55, List.getD_eq_getElem?_getD, List.getElem?_eq_getElem h]
theorem less_iff (a b : ByteArray) : (Op.bytesLess a.toList b.toList = true) ↔ bl a < bl b := by
 rw [bytesLess_eq, toList_bl, toList_bl, decide_eq_true_iff]
def anyUnder (l : FS) (i : Nat) (k : Nat) : Bool := (List.range (l.length - k)).any fun q => decide (k + q ≠ i) && underP (l.getD i ⟨⟨#[]⟩, 0⟩).f0 (l.getD (k + q) ⟨⟨#[]⟩, 0⟩).f0
theorem anyUnder_end (l : FS) (i k : Nat) (h : l.length ≤ k) : anyUnder l i k = false := by
 rw [anyUnder, Nat.sub_eq_zero_of_le h]; rfl
theorem getD_at (l : FS) (i : Nat) (h : i < l.length) : l.getD i ⟨⟨#[]⟩, 0⟩ = l[i] := by
 rw [List.getD_eq_getElem?_getD, List.getElem?_eq_getElem h]; rfl
theorem anyUnder_step (l : FS) (i k : Nat) (hi : i < l.length) (h : k < l.length) : anyUnder l i k = ((decide (k ≠ i) && underP l[i].f0 l[k].f0) || anyUnder l i (k + 1)) := by
 rw [anyUnder, anyUnder, show l.length - k = (l.length - (k + 1)) + 1 by omega, List.range_succ_eq_map, List.any_cons, Nat.add_zero, getD_at l i hi, getD_at l k h, List.any_map]
 congr 1
 apply List.any_congr rfl
 intro q
 simp only [Function.comp]
 rw [show k + (q + 1) = k + 1 + q by omega]
def errAt (l : FS) (i : Nat) : Int :=
 if validP (l.getD i ⟨⟨#[]⟩, 0⟩).f0 = false then 3
 else if (l.getD i ⟨⟨#[]⟩, 0⟩).f1 < 1 ∨ (l.getD i ⟨⟨#[]⟩, 0⟩).f1 > 9999 then 2
 else if 0 < i ∧ ¬ bl (l.getD (i - 1) ⟨⟨#[]⟩, 0⟩).f0 < bl (l.getD i ⟨⟨#[]⟩, 0⟩).f0 then 7
 else if anyUnder l i 0 = true then 14 else 0
def errFrom (l : FS) : Nat → Nat → Int
 | 0, _ => 0
 | d + 1, i => if errAt l i = 0 then errFrom l d (i + 1) else errAt l i
def rightM (l : FS) : Int := if l.length > 32 then 4 else errFrom l l.length 0
theorem R_l1 (l : FS) (i : Nat) (hi : i < l.length) (hl : l.length ≤ 100000) (hs : ∀ f ∈ l, f.f0.size ≤ 140737488351232) (r : Int) (hr : Ev (fun k => tree_Right.l0 k l l (l.length : Int) ((i + 1 : Nat) : Int)) r) :
  ∀ d (j : Nat), j + d = l.length → Ev (fun k => tree_Right.l1 k l (i : Int) l (l.length : Int) (i : Int) l (l.length : Int) (j : Int) l[i].f0 l[i].f1) (if anyUnder l i j = true then 14 else r) := by
 intro d
 have hw : ∀ j : Nat, j ≤ 100000 → wrap64 ((j : Int) + 1) = ((j + 1 : Nat) : Int) := fun j hj => by rw [w64 (by omega) (by omega)]; rfl
 induction d with
 | zero =>
  intro j hj
  rw [anyUnder_end l i j (by omega), if_neg (by decide)]
  refine Ev.step (fun k => ?_) hr
  rw [tree_Right.l1, if_neg (by omega), hw i (by omega)]
 | succ d ih =>
  intro j hj
  have hlt : j < l.length := by omega
  rw [anyUnder_step l i j hi hlt]
  refine Ev.step (fun k => by rw [tree_Right.l1, if_pos (by omega), if_pos (by omega), if_pos (by omega), rdF_nat l j hlt, hw j (by omega)]) ?_
  by_cases h : j = i
  ·rw [decide_eq_false (not_not_intro h), Bool.false_and, Bool.false_or]
   exact Ev.ite_pos (by omega) (ih (j + 1) (by omega))
  ·rw [decide_eq_true h, Bool.true_and]
   refine Ev.ite_neg (by omega) (Ev.bind_eq (Under_is l[i].f0 l[j].f0 (hs _ (List.getElem_mem _))) ?_)
   by_cases h2 : underP l[i].f0 l[j].f0 = true
   ·rw [h2]
    exact Ev.ite_pos rfl (Ev.now _)
   ·rw [Bool.eq_false_iff.2 h2, Bool.false_or]
    exact Ev.ite_neg (by simp) (ih (j + 1) (by omega))
theorem errAt_at (l : FS) (i : Nat) (hi : i < l.length) : errAt l i = if validP l[i].f0 = false then 3 else if l[i].f1 < 1 ∨ l[i].f1 > 9999 then 2 else if 0 < i ∧ ¬ bl (l[i - 1]'(by omega)).f0 < bl l[i].f0 then 7 else if anyUnder l i 0 = true then 14 else 0 := by
 rw [errAt, getD_at l i hi, getD_at l (i - 1) (by omega)]
theorem R_l0 (l : FS) (hl : l.length ≤ 100000) (hs : ∀ f ∈ l, f.f0.size ≤ 140737488351232) : ∀ d (i : Nat), i + d = l.length → Ev (fun k => tree_Right.l0 k l l (l.length : Int) (i : Int)) (errFrom l d i) := by
 intro d
 induction d with
 | zero =>
  intro i hi
  refine Ev.step (f := fun _ => some 0) (fun k => ?_) (Ev.now _)
  rw [tree_Right.l0, if_neg (by omega)]
 | succ d ih =>
  intro i hi
  have hlt : i < l.length := by omega
  have hn := ih (i + 1) (by omega)
  rw [errFrom, errAt_at l i hlt]
  refine Ev.step (fun k => by rw [tree_Right.l0, if_pos (by omega), if_pos (by omega), if_pos (by omega), rdF_nat l i hlt]) (Ev.bind (ValidPath_is _) ?_)
  by_cases h1 : validP l[i].f0 = false
  ·rw [h1, if_pos rfl, if_neg (by decide)]
   exact Ev.ite_neg (by decide) (Ev.now _)
  have h1' : validP l[i].f0 = true := by simpa using h1
  rw [h1', if_neg (show ¬ (true = false) by decide)]
  refine Ev.ite_pos rfl ?_
  by_cases h2 : l[i].f1 < 1 ∨ l[i].f1 > 9999
  ·rw [if_pos h2, if_neg (by decide)]
   have hj : Ev (fun k => tree_Right.j1 k l (i : Int) l (l.length : Int) (i : Int) true l[i].f0 l[i].f1) 2 := by
    refine Ev.step (f := fun _ => some 2) (fun k => ?_) (Ev.now _)
    rw [tree_Right.j1, if_pos rfl]
   rcases h2 with h2 | h2
   ·exact Ev.ite_pos h2 hj
   ·refine Ev.ite_neg (by omega) ?_
    rw [decide_eq_true h2]
    exact hj
  rw [if_neg h2]
  rw [not_or] at h2
  refine Ev.ite_neg h2.1 ?_
  rw [decide_eq_false h2.2]
  refine Ev.step (fun k => by rw [tree_Right.j1, if_neg (by decide)]) ?_
  have hj2 : Ev (fun k => tree_Right.j2 k l (i : Int) l (l.length : Int) (i : Int) l[i].f0 l[i].f1) (if (if anyUnder l i 0 = true then (14 : Int) else 0) = 0 then errFrom l d (i + 1) else if anyUnder l i 0 = true then 14 else 0) := by
   refine Ev.step (fun k => by rw [tree_Right.j2]) ?_
   have := R_l1 l i hlt hl hs _ hn l.length 0 (by omega)
   by_cases h4 : anyUnder l i 0 = true
   ·rw [if_pos h4] at this ⊢
    exact this
   ·rw [if_neg h4] at this ⊢
    exact this
  by_cases h3 : 0 < i
  ·have hw : wrap64 ((i : Int) - 1) = ((i - 1 : Nat) : Int) := by rw [w64 (by omega) (by omega)]; omega
   refine Ev.ite_pos (by omega) ?_
   rw [hw]
   refine Ev.ite_pos (by omega) (Ev.ite_pos (by omega) ?_)
   rw [rdF_nat l (i - 1) (by omega)]
   by_cases h5 : bl l[i - 1].f0 < bl l[i].f0
   ·rw [if_neg (show ¬ (0 < i ∧ ¬ bl (l[i - 1]'(by omega)).f0 < bl l[i].f0) from fun h => h.2 h5)]
    exact Ev.ite_pos ((less_iff _ _).2 h5) hj2
   ·rw [if_pos (show 0 < i ∧ ¬ bl (l[i - 1]'(by omega)).f0 < bl l[i].f0 from ⟨h3, h5⟩), if_neg (show ¬ (7 : Int) = 0 by decide)]
    exact Ev.ite_neg (fun h => h5 ((less_iff _ _).1 h)) (Ev.now _)
  ·rw [if_neg (show ¬ (0 < i ∧ ¬ bl (l[i - 1]'(by omega)).f0 < bl l[i].f0) from fun h => h3 h.1)]
   exact Ev.ite_neg (by omega) hj2
theorem Right_is (l : FS) (hs : ∀ f ∈ l, f.f0.size ≤ 140737488351232) : Ev (fun k => tree_Right.f k l) (rightM l) := by
 by_cases h : (l.length : Int) > 32
 ·refine Ev.congr (fun k => ?_) (Ev.now _)
  rw [tree_Right.f, if_pos h, rightM, if_pos (by omega)]
 ·refine Ev.congr (fun k => by rw [tree_Right.f, if_neg h]) ?_
  rw [rightM, if_neg (by omega)]
  exact R_l0 l (by omega) hs l.length 0 (by omega)
theorem rR_l1 (l : FS) (i : Nat) (hi : i < l.length) (hl : l.length ≤ 100000) (r : Int) (hr : Ev (fun k => r25_Right.l0 k l ((i + 1 : Nat) : Int)) r) :
  ∀ d (j : Nat), j + d = l.length → Ev (fun k => r25_Right.l1 k l (i : Int) (j : Int)) (if anyUnder l i j = true then 14 else r) := by
 intro d
 have hw : ∀ j : Nat, j ≤ 100000 → wrap64 ((j : Int) + 1) = ((j + 1 : Nat) : Int) := fun j hj => by rw [w64 (by omega) (by omega)]; rfl
 induction d with
 | zero =>
  intro j hj
  rw [anyUnder_end l i j (by omega), if_neg (by decide)]
  refine Ev.step (fun k => ?_) hr
  rw [r25_Right.l1, if_neg (by omega), hw i (by omega)]
 | succ d ih =>
  intro j hj
  have hlt : j < l.length := by omega
  rw [anyUnder_step l i j hi hlt]
  refine Ev.step (fun k => by rw [r25_Right.l1, if_pos (by omega), hw j (by omega)]) ?_
  by_cases h : j = i
  ·rw [decide_eq_false (not_not_intro h), Bool.false_and, Bool.false_or]
   exact Ev.ite_pos (by omega) (ih (j + 1) (by omega))
  ·rw [decide_eq_true h, Bool.true_and]
   refine Ev.ite_neg (by omega) (Ev.ite_pos (by omega) (Ev.ite_pos (by omega) (Ev.ite_pos (by omega) ?_)))
   rw [rdF_nat l j hlt, rdF_nat l i hi]
   refine Ev.bind_eq (rUnder_is l[i].f0 l[j].f0) ?_
   by_cases h2 : underP l[i].f0 l[j].f0 = true
   ·rw [h2]
    exact Ev.ite_pos rfl (Ev.now _)
   ·rw [Bool.eq_false_iff.2 h2, Bool.false_or]
    exact Ev.ite_neg (by simp) (ih (j + 1) (by omega))
theorem rR_l0 (l : FS) (hl : l.length ≤ 100000) : ∀ d (i : Nat), i + d = l.length → Ev (fun k => r25_Right.l0 k l (i : Int)) (errFrom l d i) := by
 intro d
 induction d with
 | zero =>
  intro i hi
  refine Ev.step (f := fun _ => some 0) (fun k => ?_) (Ev.now _)
  rw [r25_Right.l0, if_neg (by omega)]
 | succ d ih =>
  intro i hi
  have hlt : i < l.length := by omega
  have hn := ih (i + 1) (by omega)
  rw [errFrom, errAt_at l i hlt]
  refine Ev.step (fun k => by rw [r25_Right.l0, if_pos (by omega), if_pos (by omega), rdF_nat l i hlt]) (Ev.bind (rValidPath_is _) ?_)
  by_cases h1 : validP l[i].f0 = false
  ·rw [h1, if_pos rfl, if_neg (by decide)]
   exact Ev.ite_neg (by decide) (Ev.now _)
  have h1' : validP l[i].f0 = true := by simpa using h1
  rw [h1', if_neg (show ¬ (true = false) by decide)]
  refine Ev.ite_pos rfl ?_
  by_cases h2 : l[i].f1 < 1 ∨ l[i].f1 > 9999
  ·rw [if_pos h2, if_neg (by decide)]
   have hj : Ev (fun k => r25_Right.j1 k l (i : Int) true) 2 := by
    refine Ev.step (f := fun _ => some 2) (fun k => ?_) (Ev.now _)
    rw [r25_Right.j1, if_pos rfl]
   rcases h2 with h2 | h2
   ·exact Ev.ite_pos h2 hj
   ·refine Ev.ite_neg (by omega) ?_
    rw [decide_eq_true h2]
    exact hj
  rw [if_neg h2]
  rw [not_or] at h2
  refine Ev.ite_neg h2.1 ?_
  rw [decide_eq_false h2.2]
  refine Ev.step (fun k => by rw [r25_Right.j1, if_neg (by decide)]) ?_
  have hj2 : Ev (fun k => r25_Right.j2 k l (i : Int) false) (if (if anyUnder l i 0 = true then (14 : Int) else 0) = 0 then errFrom l d (i + 1) else if anyUnder l i 0 = true then 14 else 0) := by
   refine Ev.step (fun k => by rw [r25_Right.j2, if_neg (by decide)]) ?_
   have := rR_l1 l i hlt hl _ hn l.length 0 (by omega)
   by_cases h4 : anyUnder l i 0 = true
   ·rw [if_pos h4] at this ⊢
    exact this
   ·rw [if_neg h4] at this ⊢
    exact this
  by_cases h3 : 0 < i
  ·have hw : wrap64 ((i : Int) - 1) = ((i - 1 : Nat) : Int) := by rw [w64 (by omega) (by omega)]; omega
   refine Ev.ite_pos (by omega) (Ev.ite_pos (by omega) (Ev.ite_pos (by omega) ?_))
   rw [hw]
   refine Ev.ite_pos (by omega) (Ev.ite_pos (by omega) ?_)
   rw [rdF_nat l (i - 1) (by omega), rdF_nat l i hlt]
   by_cases h5 : bl l[i - 1].f0 < bl l[i].f0
   ·rw [if_neg (show ¬ (0 < i ∧ ¬ bl (l[i - 1]'(by omega)).f0 < bl l[i].f0) from fun h => h.2 h5), (less_iff _ _).2 h5, Bool.not_true]
    exact hj2
   ·rw [if_pos (show 0 < i ∧ ¬ bl (l[i - 1]'(by omega)).f0 < bl l[i].f0 from ⟨h3, h5⟩), if_neg (show ¬ (7 : Int) = 0 by decide), Bool.eq_false_iff.2 (fun h => h5 ((less_iff _ _).1 h)), Bool.not_false]
    refine Ev.step (f := fun _ => some 7) (fun k => ?_) (Ev.now _)
    rw [r25_Right.j2, if_pos rfl]
  ·rw [if_neg (show ¬ (0 < i ∧ ¬ bl (l[i - 1]'(by omega)).f0 < bl l[i].f0) from fun h => h3 h.1)]
   exact Ev.ite_neg (by omega) hj2
theorem rRight_is (l : FS) : Ev (fun k => r25_Right.f k l) (rightM l) := by
 by_cases h : (l.length : Int) > 32
 ·refine Ev.congr (fun k => ?_) (Ev.now _)
  rw [r25_Right.f, if_pos h, rightM, if_pos (by omega)]
 ·refine Ev.congr (fun k => by rw [r25_Right.f, if_neg h]) ?_
  rw [rightM, if_neg (by omega)]
  exact rR_l0 l (by omega) l.length 0 (by omega)
def IncF (l : FS) : Prop := l.Pairwise fun a b => bl a.f0 < bl b.f0
theorem errFrom_zero {l : FS} : ∀ {d i : Nat}, errFrom l d i = 0 → ∀ j, i ≤ j → j < i + d → errAt l j = 0
 | 0, i, _, j, h1, h2 => by omega
 | d + 1, i, h, j, h1, h2 => by
  rw [errFrom] at h
  by_cases e : errAt l i = 0
  ·rw [if_pos e] at h
   rcases Nat.lt_or_ge i j with h3 | h3
   ·exact errFrom_zero h j h3 (by omega)
   ·obtain rfl : i = j := by omega
    exact e
  ·rw [if_neg e] at h; exact absurd h e
theorem errAt_zero {l : FS} {i : Nat} (hi : i < l.length) (h : errAt l i = 0) : validP l[i].f0 = true ∧ 1 ≤ l[i].f1 ∧ l[i].f1 ≤ 9999 ∧ (0 < i → bl (l[i - 1]'(by omega)).f0 < bl l[i].f0) ∧ anyUnder l i 0 = false := by
 rw [errAt_at l i hi] at h
 by_cases h1 : validP l[i].f0 = false
 ·rw [if_pos h1] at h; omega
 rw [if_neg h1] at h
 by_cases h2 : l[i].f1 < 1 ∨ l[i].f1 > 9999
 ·rw [if_pos h2] at h; omega
 rw [if_neg h2] at h
 by_cases h3 : 0 < i ∧ ¬ bl (l[i - 1]'(by omega)).f0 < bl l[i].f0
 ·rw [if_pos h3] at h; omega
 rw [if_neg h3] at h
 by_cases h4 : anyUnder l i 0 = true
 ·rw [if_pos h4] at h; omega
 refine ⟨by simpa using h1, by omega, by omega, fun hp => ?_, by simpa using h4⟩
 rcases Classical.em (bl (l[i - 1]'(by omega)).f0 < bl l[i].f0) with e | e
 ·exact e
 ·exact absurd ⟨hp, e⟩ h3
structure Tree (l : FS) : Prop where
 inc : IncF l
 len : l.length ≤ 32
 size : ∀ f ∈ l, f.f0.size ≤ 60
 blob : ∀ f ∈ l, 1 ≤ f.f1 ∧ f.f1 ≤ 9999
theorem tree_of {l : FS} (h : rightM l = 0) : Tree l := by
 unfold rightM at h
 by_cases hl : l.length > 32
 ·rw [if_pos hl] at h; omega
 rw [if_neg hl] at h
 have ha : ∀ i (hi : i < l.length), _ := fun i hi => errAt_zero hi (errFrom_zero h i (Nat.zero_le _) (by omega))
 refine ⟨?_, by omega, fun f hf => ?_, fun f hf => ?_⟩
 ·have adj : ∀ d i (hi : i + d + 1 < l.length), bl (l[i]'(by omega)).f0 < bl (l[i + d + 1]'hi).f0 := by
   intro d
   induction d with
   | zero => intro i hi; exact (ha (i + 1) hi).2.2.2.1 (by omega)
   | succ d ih =>
    intro i hi
    exact List.lt_trans (ih i (by omega)) ((ha (i + d + 1 + 1) hi).2.2.2.1 (by omega))
  rw [IncF, List.pairwise_iff_getElem]
  intro i j hi hj hij
  have := adj (j - i - 1) i (by omega)
  simp only [show i + (j - i - 1) + 1 = j by omega] at this
  exact this
 ·obtain ⟨i, hi, rfl⟩ := List.mem_iff_getElem.1 hf
  have := (ha i hi).1
  rw [validP, Bool.and_eq_true, decide_eq_true_iff] at this
  exact this.1
 ·obtain ⟨i, hi, rfl⟩ := List.mem_iff_getElem.1 hf
  exact ⟨(ha i hi).2.1, (ha i hi).2.2.1⟩

abbrev SF := S55
abbrev SC := S53
theorem rdC_nat (l : List SC) (i : Nat) (h : i < l.length) : rd_T53 l (i : Int) = l[i] := by
 simp [rd_T53, List.getD_eq_getElem?_getD, List.getElem?_eq_getElem h]
theorem w1 (i : Nat) (h : i ≤ 1000000000) : wrap64 ((i : Int) + 1) = ((i + 1 : Nat) : Int) := by rw [w64 (by omega) (by omega)]; rfl
instance decSF : DecidableEq SF := fun a b => if h : a.f0 = b.f0 ∧ a.f1 = b.f1 then isTrue (by obtain ⟨a0, a1⟩ := a; obtain ⟨b0, b1⟩ := b; obtain ⟨rfl, rfl⟩ := h; rfl) else isFalse (fun e => h (by rw [e]; exact ⟨rfl, rfl⟩))
def blobL : FS → ByteArray → Int
 | [], _ => 0
 | f :: l, s => if f.f0 = s then f.f1 else blobL l s
def thereL (l : FS) (s : ByteArray) : Bool := l.any fun f => decide (f.f0 = s)
theorem Files_is (l m : FS) (hl : l.length ≤ 1000000) : Ev (fun k => r25_Files.f k l m) (decide (l = m)) := by
 by_cases hlen : (l.length : Int) = (m.length : Int)
 ·have key : ∀ d (i : Nat), i + d = l.length → Ev (fun k => r25_Files.l0 k l m (i : Int)) (decide (l.drop i = m.drop i)) := by
   intro d
   induction d with
   | zero =>
    intro i hi
    rw [List.drop_of_length_le (by omega), List.drop_of_length_le (by omega)]
    refine Ev.step (f := fun _ => some true) (fun k => ?_) (Ev.now _)
    rw [r25_Files.l0, if_neg (by omega)]
   | succ d ih =>
    intro i hi
    have hlt : i < l.length := by omega
    have hlt2 : i < m.length := by omega
    rw [drop_cons l i hlt, drop_cons m i hlt2]
    refine Ev.step (fun k => by rw [r25_Files.l0, if_pos (show (i : Int) < (l.length : Int) by omega), if_pos (by omega), if_pos (show (i : Int) < (m.length : Int) by omega), rdF_nat l i hlt, rdF_nat m i hlt2, w1 i (by omega)]) ?_
    by_cases h : l[i] = m[i]
    ·rw [decide_eq_decide.2 (show l[i] :: l.drop (i + 1) = m[i] :: m.drop (i + 1) ↔ l.drop (i + 1) = m.drop (i + 1) by rw [List.cons.injEq]; exact ⟨fun e => e.2, fun e => ⟨h, e⟩⟩)]
     refine Ev.ite_neg ?_ (ih (i + 1) (by omega))
     rw [h]; simp
    ·rw [decide_eq_false (show ¬ l[i] :: l.drop (i + 1) = m[i] :: m.drop (i + 1) by rw [List.cons.injEq]; exact fun e => h e.1)]
     refine Ev.ite_pos ?_ (Ev.now _)
     have h2 : ¬ (l[i].f0 = m[i].f0 ∧ l[i].f1 = m[i].f1) := fun e => h (by
      generalize l[i] = a at e; generalize m[i] = b at e
      obtain ⟨a0, a1⟩ := a; obtain ⟨b0, b1⟩ := b
      obtain ⟨rfl, rfl⟩ := e; rfl)
     by_cases e0 : l[i].f0 = m[i].f0
     ·have e1 : ¬ l[i].f1 = m[i].f1 := fun e => h2 ⟨e0, e⟩
      simp [e1]
     ·have e1 : ¬ l[i].f0.toList = m[i].f0.toList := fun e => e0 (toList_eq_iff.1 e)
      simp [e1]
  refine Ev.congr (fun k => by rw [r25_Files.f, if_pos hlen]; rfl) (key l.length 0 (by omega))
 ·rw [decide_eq_false (fun e => hlen (by rw [e]))]
  refine Ev.congr (fun k => ?_) (Ev.now _)
  rw [r25_Files.f, if_neg hlen]
def setGo (p : ByteArray) (b : Int) : FS → Bool → FS
 | [], inn => if inn = true then [] else [⟨p, b⟩]
 | f :: l, inn => if inn = false ∧ ¬ bl f.f0 < bl p then ⟨p, b⟩ :: (if f.f0 = p then setGo p b l true else f :: setGo p b l true) else if f.f0 = p then setGo p b l inn else f :: setGo p b l inn
def setM (l : FS) (p : ByteArray) (b : Int) : FS := setGo p b l (b == 0)
theorem setGo_true (p : ByteArray) (b : Int) : ∀ l : FS, setGo p b l true = l.filter fun f => decide (f.f0 ≠ p)
 | [] => rfl
 | f :: l => by
  rw [setGo, if_neg (fun h => by cases h.1), setGo_true p b l]
  by_cases e : f.f0 = p
  ·rw [if_pos e, List.filter_cons_of_neg (by simpa using e)]
  ·rw [if_neg e, List.filter_cons_of_pos (by simpa using e)]
theorem mem_setGo (p : ByteArray) (b : Int) (x : SF) : ∀ l : FS, x ∈ setGo p b l false ↔ x = ⟨p, b⟩ ∨ (x ∈ l ∧ x.f0 ≠ p)
 | [] => by rw [setGo, if_neg (by decide)]; simp
 | f :: l => by
  rw [setGo]
  by_cases h : bl f.f0 < bl p
  ·have hne : f.f0 ≠ p := fun e => by rw [e] at h; exact List.lt_irrefl _ h
   rw [if_neg (fun e => e.2 h), if_neg hne, List.mem_cons, List.mem_cons, mem_setGo p b x l]
   constructor
   ·rintro (rfl | h1 | ⟨h1, h2⟩)
    ·exact .inr ⟨.inl rfl, hne⟩
    ·exact .inl h1
    ·exact .inr ⟨.inr h1, h2⟩
   ·rintro (h1 | ⟨h1 | h1, h2⟩)
    ·exact .inr (.inl h1)
    ·exact .inl h1
    ·exact .inr (.inr ⟨h1, h2⟩)
  ·rw [if_pos ⟨rfl, h⟩, setGo_true, List.mem_cons]
   by_cases e : f.f0 = p
   ·rw [if_pos e, List.mem_filter, List.mem_cons]
    constructor
    ·rintro (h1 | ⟨h1, h2⟩)
     ·exact .inl h1
     ·exact .inr ⟨.inr h1, of_decide_eq_true h2⟩
    ·rintro (h1 | ⟨h1 | h1, h2⟩)
     ·exact .inl h1
     ·rw [h1] at h2; exact absurd e h2
     ·exact .inr ⟨h1, decide_eq_true h2⟩
   ·rw [if_neg e, List.mem_cons, List.mem_filter, List.mem_cons]
    constructor
    ·rintro (h1 | rfl | ⟨h1, h2⟩)
     ·exact .inl h1
     ·exact .inr ⟨.inl rfl, e⟩
     ·exact .inr ⟨.inr h1, of_decide_eq_true h2⟩
    ·rintro (h1 | ⟨h1 | h1, h2⟩)
     ·exact .inl h1
     ·exact .inr (.inl h1)
     ·exact .inr (.inr ⟨h1, decide_eq_true h2⟩)
theorem lt_of_not {a b : ByteArray} (h : ¬ bl a < bl b) (hne : a ≠ b) : bl b < bl a := lt_of_le_ne (List.not_lt.1 h) (fun e => hne (bl_inj e).symm)
theorem setGo_inc (p : ByteArray) (b : Int) : ∀ {l : FS}, IncF l → IncF (setGo p b l false)
 | [], _ => by rw [setGo, if_neg (by decide)]; exact List.pairwise_singleton _ _
 | f :: l, h => by
  have h1 := List.pairwise_cons.1 h
  rw [setGo]
  by_cases e : bl f.f0 < bl p
  ·have hne : f.f0 ≠ p := fun e2 => by rw [e2] at e; exact List.lt_irrefl _ e
   rw [if_neg (fun e2 => e2.2 e), if_neg hne]
   refine List.pairwise_cons.2 ⟨fun x hx => ?_, setGo_inc p b h1.2⟩
   rcases (mem_setGo p b x l).1 hx with rfl | ⟨h2, _⟩
   ·exact e
   ·exact h1.1 x h2
  ·rw [if_pos ⟨rfl, e⟩, setGo_true]
   have hall : ∀ x ∈ f :: l, x.f0 ≠ p → bl p < bl x.f0 := by
    intro x hx hne
    rcases List.mem_cons.1 hx with rfl | hx
    ·exact lt_of_not e hne
    ·by_cases e2 : f.f0 = p
     ·rw [← e2]; exact h1.1 x hx
     ·exact List.lt_trans (lt_of_not e e2) (h1.1 x hx)
   have hf : IncF (l.filter fun f => decide (f.f0 ≠ p)) := List.Pairwise.filter _ h1.2
   by_cases e2 : f.f0 = p
   ·rw [if_pos e2]
    refine List.pairwise_cons.2 ⟨fun x hx => ?_, hf⟩
    rw [List.mem_filter] at hx
    exact hall x (List.mem_cons_of_mem _ hx.1) (of_decide_eq_true hx.2)
   ·rw [if_neg e2]
    refine List.pairwise_cons.2 ⟨fun x hx => ?_, List.pairwise_cons.2 ⟨fun x hx => ?_, hf⟩⟩
    ·rcases List.mem_cons.1 hx with rfl | hx
     ·exact hall x List.mem_cons_self e2
     ·rw [List.mem_filter] at hx
      exact hall x (List.mem_cons_of_mem _ hx.1) (of_decide_eq_true hx.2)
    ·rw [List.mem_filter] at hx
     exact h1.1 x hx.1
theorem mem_setM {l : FS} {p : ByteArray} {b : Int} (x : SF) : x ∈ setM l p b ↔ (b ≠ 0 ∧ x = ⟨p, b⟩) ∨ (x ∈ l ∧ x.f0 ≠ p) := by
 unfold setM
 by_cases h : b = 0
 ·rw [beq_iff_eq.2 h, setGo_true, List.mem_filter]
  constructor
  ·rintro ⟨h1, h2⟩; exact .inr ⟨h1, of_decide_eq_true h2⟩
  ·rintro (⟨h1, _⟩ | ⟨h1, h2⟩)
   ·exact absurd h h1
   ·exact ⟨h1, decide_eq_true h2⟩
 ·rw [beq_eq_false_iff_ne.2 h, mem_setGo]
  constructor
  ·rintro (h1 | h1)
   ·exact .inl ⟨h, h1⟩
   ·exact .inr h1
  ·rintro (⟨_, h1⟩ | h1)
   ·exact .inl h1
   ·exact .inr h1
theorem setM_inc {l : FS} (h : IncF l) (p : ByteArray) (b : Int) : IncF (setM l p b) := by
 unfold setM
 by_cases e : b = 0
 ·rw [beq_iff_eq.2 e, setGo_true]; exact List.Pairwise.filter _ h
 ·rw [beq_eq_false_iff_ne.2 e]; exact setGo_inc p b h
theorem setGo_len (p : ByteArray) (b : Int) : ∀ (l : FS) (inn : Bool), (setGo p b l inn).length ≤ l.length + 1
 | [], inn => by rw [setGo]; cases inn <;> simp
 | f :: l, inn => by
  rw [setGo]
  have h1 := setGo_len p b l inn
  have h2 : (setGo p b l true).length ≤ l.length := by rw [setGo_true]; exact List.length_filter_le _ _
  by_cases h : inn = false ∧ ¬ bl f.f0 < bl p
  ·rw [if_pos h]
   by_cases e : f.f0 = p
   ·rw [if_pos e]; simp; omega
   ·rw [if_neg e]; simp; omega
  ·rw [if_neg h]
   by_cases e : f.f0 = p
   ·rw [if_pos e]; simp; omega
   ·rw [if_neg e]; simp; omega
theorem setM_len (l : FS) (p : ByteArray) (b : Int) : (setM l p b).length ≤ l.length + 1 := setGo_len p b l _
theorem incF_ext : ∀ {l m : FS}, IncF l → IncF m → (∀ x, x ∈ l ↔ x ∈ m) → l = m
 | [], [], _, _, _ => rfl
 | [], b :: m, _, _, h => absurd ((h b).2 (by simp)) (by simp)
 | a :: l, [], _, _, h => absurd ((h a).1 (by simp)) (by simp)
 | a :: l, b :: m, hl, hm, h => by
  have hl1 := List.pairwise_cons.1 hl
  have hm1 := List.pairwise_cons.1 hm
  have hab : a = b := by
   rcases List.mem_cons.1 ((h a).1 (by simp)) with e | e
   ·exact e
   ·rcases List.mem_cons.1 ((h b).2 (by simp)) with e2 | e2
    ·exact e2.symm
    ·exact absurd (List.lt_trans (hm1.1 a e) (hl1.1 b e2)) (List.lt_irrefl _)
  subst hab
  rw [incF_ext hl1.2 hm1.2 (fun x => ?_)]
  constructor
  ·intro hx
   rcases List.mem_cons.1 ((h x).1 (List.mem_cons_of_mem _ hx)) with e | e
   ·subst e; exact absurd (hl1.1 x hx) (List.lt_irrefl _)
   ·exact e
  ·intro hx
   rcases List.mem_cons.1 ((h x).2 (List.mem_cons_of_mem _ hx)) with e | e
   ·subst e; exact absurd (hm1.1 x hx) (List.lt_irrefl _)
   ·exact e
theorem inc_of {l : FS} (h : IncF l) : Inc (l.map (·.f0)) := List.pairwise_map.2 h
theorem blobL_none {l : FS} {s : ByteArray} (h : ∀ f ∈ l, f.f0 ≠ s) : blobL l s = 0 := by
 induction l with
 | nil => rfl
 | cons f l ih => rw [blobL, if_neg (h f List.mem_cons_self), ih (fun g hg => h g (List.mem_cons_of_mem _ hg))]
theorem blobL_mem {l : FS} (hi : IncF l) {f : SF} (hf : f ∈ l) : blobL l f.f0 = f.f1 := by
 induction l with
 | nil => cases hf
 | cons a l ih =>
  have h1 := List.pairwise_cons.1 hi
  rw [blobL]
  rcases List.mem_cons.1 hf with rfl | hf
  ·rw [if_pos rfl]
  ·rw [if_neg (fun e => by have := h1.1 f hf; rw [e] at this; exact List.lt_irrefl _ this)]
   exact ih h1.2 hf
theorem mget_inc {l : FS} (hi : IncF l) (s : ByteArray) : (∀ f ∈ l, f.f0 = s → mget (contsM l) s = some f.f1) ∧ ((∀ f ∈ l, f.f0 ≠ s) → mget (contsM l) s = none) := by
 have key : ∀ (l : FS) (m : MP), IncF l → (∀ f ∈ l, f.f0 = s → mget (l.foldl (fun m x => mput m x.f0 x.f1) m) s = some f.f1) ∧ ((∀ f ∈ l, f.f0 ≠ s) → mget (l.foldl (fun m x => mput m x.f0 x.f1) m) s = mget m s) := by
  intro l
  induction l with
  | nil => intro m _; exact ⟨fun f hf => (by cases hf), fun _ => rfl⟩
  | cons a l ih =>
   intro m hi
   have h1 := List.pairwise_cons.1 hi
   obtain ⟨i1, i2⟩ := ih (mput m a.f0 a.f1) h1.2
   rw [List.foldl_cons]
   refine ⟨fun f hf e => ?_, fun hn => ?_⟩
   ·rcases List.mem_cons.1 hf with rfl | hf
    ·rw [i2 (fun g hg e2 => by have := h1.1 g hg; rw [e, e2] at this; exact List.lt_irrefl _ this), mget_put, if_pos e]
    ·exact i1 f hf e
   ·rw [i2 (fun g hg => hn g (List.mem_cons_of_mem _ hg)), mget_put, if_neg (hn a List.mem_cons_self)]
 exact key l [] hi
theorem blob_is (l : FS) (s : ByteArray) (hl : l.length ≤ 1000000) : Ev (fun k => r25_blob.f k l s) (blobL l s) := by
 have key : ∀ d (i : Nat), i + d = l.length → Ev (fun k => r25_blob.l0 k l s (i : Int)) (blobL (l.drop i) s) := by
  intro d
  induction d with
  | zero =>
   intro i hi
   rw [List.drop_of_length_le (by omega)]
   refine Ev.step (f := fun _ => some 0) (fun k => ?_) (Ev.now _)
   rw [r25_blob.l0, if_neg (by omega)]
  | succ d ih =>
   intro i hi
   have hlt : i < l.length := by omega
   rw [drop_cons l i hlt, blobL]
   refine Ev.step (fun k => by rw [r25_blob.l0, if_pos (show (i : Int) < (l.length : Int) by omega), if_pos (by omega), rdF_nat l i hlt, w1 i (by omega)]) ?_
   by_cases h : l[i].f0 = s
   ·rw [if_pos h]
    exact Ev.ite_pos (toList_eq_iff.2 h) (Ev.now _)
   ·rw [if_neg h]
    exact Ev.ite_neg (fun e => h (toList_eq_iff.1 e)) (ih (i + 1) (by omega))
 exact key l.length 0 (by omega)
theorem Set_is (l : FS) (p : ByteArray) (b : Int) (hl : l.length ≤ 1000000) : Ev (fun k => r25_Set.f k l p b) (setM l p b) := by
 have key : ∀ d (i : Nat) (acc : FS) (inn : Bool), i + d = l.length → acc.length + 2 * d ≤ 3000000 → Ev (fun k => r25_Set.l0 k l p b acc inn (i : Int)) (acc ++ setGo p b (l.drop i) inn) := by
  intro d
  induction d with
  | zero =>
   intro i acc inn hi ha
   rw [List.drop_of_length_le (by omega), setGo]
   refine Ev.step (f := fun _ => some (acc ++ if inn = true then [] else [⟨p, b⟩])) (fun k => ?_) (Ev.now _)
   rw [r25_Set.l0, if_neg (by omega)]
   cases inn
   ·rw [if_neg (by decide), if_pos (by omega), if_neg (by decide)]
   ·rw [if_pos rfl, if_pos rfl, List.append_nil]
  | succ d ih =>
   intro i acc inn hi ha
   have hlt : i < l.length := by omega
   rw [drop_cons l i hlt, setGo]
   have hins : inn = false ∧ ¬ bl l[i].f0 < bl p → Ev (fun k => r25_Set.j1 k l p b acc inn (i : Int) true) (acc ++ (if inn = false ∧ ¬ bl l[i].f0 < bl p then ⟨p, b⟩ :: (if l[i].f0 = p then setGo p b (l.drop (i + 1)) true else l[i] :: setGo p b (l.drop (i + 1)) true) else if l[i].f0 = p then setGo p b (l.drop (i + 1)) inn else l[i] :: setGo p b (l.drop (i + 1)) inn)) := by
    intro hc
    rw [if_pos hc]
    have hl1 : (acc ++ [(⟨p, b⟩ : SF)]).length = acc.length + 1 := by rw [List.length_append]; rfl
    refine Ev.step (fun k => by rw [r25_Set.j1, if_pos rfl, if_pos (by omega), Option.bind_some, if_pos (by omega), if_pos (show (i : Int) < (l.length : Int) by omega), rdF_nat l i hlt, w1 i (by omega)]) ?_
    by_cases e : l[i].f0 = p
    ·rw [if_pos e]
     refine Ev.ite_pos (toList_eq_iff.2 e) ?_
     have := ih (i + 1) (acc ++ [⟨p, b⟩]) true (by omega) (by omega)
     rw [List.append_assoc] at this
     exact this
    ·rw [if_neg e]
     refine Ev.ite_neg (fun h => e (toList_eq_iff.1 h)) (Ev.ite_pos (by omega) ?_)
     have := ih (i + 1) ((acc ++ [⟨p, b⟩]) ++ [l[i]]) true (by omega) (by rw [List.length_append, hl1]; simp; omega)
     rw [show (acc ++ [(⟨p, b⟩ : SF)]) ++ [l[i]] ++ setGo p b (l.drop (i + 1)) true = acc ++ ⟨p, b⟩ :: l[i] :: setGo p b (l.drop (i + 1)) true by simp] at this
     exact this
   have hno : ¬ (inn = false ∧ ¬ bl l[i].f0 < bl p) → Ev (fun k => r25_Set.j1 k l p b acc inn (i : Int) false) (acc ++ (if inn = false ∧ ¬ bl l[i].f0 < bl p then ⟨p, b⟩ :: (if l[i].f0 = p then setGo p b (l.drop (i + 1)) true else l[i] :: setGo p b (l.drop (i + 1)) true) else if l[i].f0 = p then setGo p b (l.drop (i + 1)) inn else l[i] :: setGo p b (l.drop (i + 1)) inn)) := by
    intro hc
    rw [if_neg hc]
    refine Ev.step (fun k => by rw [r25_Set.j1, if_neg (by decide), if_pos (by omega), if_pos (show (i : Int) < (l.length : Int) by omega), rdF_nat l i hlt, w1 i (by omega)]) ?_
    by_cases e : l[i].f0 = p
    ·rw [if_pos e]
     exact Ev.ite_pos (toList_eq_iff.2 e) (ih (i + 1) acc inn (by omega) (by omega))
    ·rw [if_neg e]
     refine Ev.ite_neg (fun h => e (toList_eq_iff.1 h)) (Ev.ite_pos (by omega) ?_)
     have := ih (i + 1) (acc ++ [l[i]]) inn (by omega) (by rw [List.length_append]; simp; omega)
     rw [List.append_assoc] at this
     exact this
   refine Ev.step (fun k => by rw [r25_Set.l0, if_pos (show (i : Int) < (l.length : Int) by omega)]) ?_
   cases inn with
   | true => exact Ev.ite_pos rfl (hno (fun h => by cases h.1))
   | false =>
    refine Ev.ite_neg (by decide) (Ev.ite_pos (by omega) ?_)
    rw [rdF_nat l i hlt]
    by_cases e : bl l[i].f0 < bl p
    ·rw [(less_iff _ _).2 e, Bool.not_true]
     exact hno (fun h => h.2 e)
    ·rw [Bool.eq_false_iff.2 (fun h => e ((less_iff _ _).1 h)), Bool.not_false]
     exact hins ⟨rfl, e⟩
 have := key l.length 0 [] (b == 0) (by omega) (by simp; omega)
 rw [List.nil_append, List.drop_zero] at this
 exact this

def ones (l : FS) : FS := l.foldl (fun a f => setM a f.f0 1) []
theorem ones_snoc (l : FS) (f : SF) : ones (l ++ [f]) = setM (ones l) f.f0 1 := by rw [ones, List.foldl_append]; rfl
theorem ones_len (l : FS) : (ones l).length ≤ l.length := by
 have key : ∀ (l a : FS), (l.foldl (fun a f => setM a f.f0 1) a).length ≤ a.length + l.length := by
  intro l
  induction l with
  | nil => intro a; exact Nat.le_refl _
  | cons f l ih =>
   intro a
   have h1 := ih (setM a f.f0 1)
   have h2 := setM_len a f.f0 1
   rw [List.foldl_cons, List.length_cons]
   omega
 have := key l []
 rw [List.length_nil, Nat.zero_add] at this
 exact this
theorem ones_prop (l : FS) : IncF (ones l) ∧ ∀ s, (∃ x ∈ ones l, x.f0 = s) ↔ ∃ f ∈ l, f.f0 = s := by
 have key : ∀ (l a : FS), IncF a → IncF (l.foldl (fun a f => setM a f.f0 1) a) ∧ ∀ s, (∃ x ∈ l.foldl (fun a f => setM a f.f0 1) a, x.f0 = s) ↔ (∃ x ∈ a, x.f0 = s) ∨ ∃ f ∈ l, f.f0 = s := by
  intro l
  induction l with
  | nil => intro a ha; exact ⟨ha, fun s => by simp⟩
  | cons f l ih =>
   intro a ha
   obtain ⟨h1, h2⟩ := ih (setM a f.f0 1) (setM_inc ha _ _)
   rw [List.foldl_cons]
   refine ⟨h1, fun s => ?_⟩
   rw [h2 s]
   constructor
   ·rintro (⟨x, hx, e⟩ | ⟨g, hg, e⟩)
    ·rcases (mem_setM x).1 hx with ⟨_, rfl⟩ | ⟨h3, _⟩
     ·exact .inr ⟨f, List.mem_cons_self, e⟩
     ·exact .inl ⟨x, h3, e⟩
    ·exact .inr ⟨g, List.mem_cons_of_mem _ hg, e⟩
   ·rintro (⟨x, hx, e⟩ | ⟨g, hg, e⟩)
    ·by_cases e2 : x.f0 = f.f0
     ·exact .inl ⟨⟨f.f0, 1⟩, (mem_setM _).2 (.inl ⟨by decide, rfl⟩), by rw [← e, e2]⟩
     ·exact .inl ⟨x, (mem_setM _).2 (.inr ⟨hx, e2⟩), e⟩
    ·rcases List.mem_cons.1 hg with rfl | hg
     ·exact .inl ⟨⟨g.f0, 1⟩, (mem_setM _).2 (.inl ⟨by decide, rfl⟩), e⟩
     ·exact .inr ⟨g, hg, e⟩
 obtain ⟨h1, h2⟩ := key l [] List.Pairwise.nil
 exact ⟨h1, fun s => by rw [ones, h2 s]; simp⟩
theorem mem_paths (ls : List FS) (s : ByteArray) : s ∈ pathsM (ls.map contsM) ↔ ∃ l ∈ ls, ∃ f ∈ l, f.f0 = s := by
 rw [mem_pathsM]
 constructor
 ·rintro ⟨m, hm, h⟩
  obtain ⟨l, hl, rfl⟩ := List.mem_map.1 hm
  exact ⟨l, hl, (mget_conts l s).1 h⟩
 ·rintro ⟨l, hl, h⟩
  exact ⟨contsM l, List.mem_map.2 ⟨l, hl, rfl⟩, (mget_conts l s).2 h⟩
theorem pathsM_inc (ms : List MP) : Inc (pathsM ms) := uniqS_inc _
theorem ones_paths (ls : List FS) : (ones ls.flatten).map (·.f0) = pathsM (ls.map contsM) := by
 obtain ⟨h1, h2⟩ := ones_prop ls.flatten
 refine inc_ext (inc_of h1) (pathsM_inc _) (fun s => ?_)
 rw [mem_paths, List.mem_map]
 have := h2 s
 rw [this]
 constructor
 ·rintro ⟨f, hf, e⟩
  obtain ⟨l, hl, hf⟩ := List.mem_flatten.1 hf
  exact ⟨l, hl, f, hf, e⟩
 ·rintro ⟨l, hl, f, hf, e⟩
  exact ⟨f, List.mem_flatten.2 ⟨l, hl, hf⟩, e⟩
theorem pathsM_len3 (l0 l1 l2 : FS) (h0 : l0.length ≤ 100000) (h1 : l1.length ≤ 100000) (h2 : l2.length ≤ 100000) : (pathsM [contsM l0, contsM l1, contsM l2]).length ≤ 300000 := by
 have := pathsM_len [contsM l0, contsM l1, contsM l2] 100000 (by intro m hm; simp at hm; rcases hm with rfl | rfl | rfl <;> rw [contsM_len] <;> omega)
 simpa using this
theorem okFs_tree {l : FS} (h : Tree l) : okFs l = true := by
 rw [okFs, List.all_eq_true]
 intro f hf
 have h1 := h.size f hf
 have h2 := h.blob f hf
 rw [Bool.and_eq_true]
 refine ⟨decide_eq_true (by omega), ?_⟩
 rw [okI, Bool.and_eq_true, decide_eq_true_iff, decide_eq_true_iff]
 omega

structure RepL (r : FS) (m : MP) : Prop where
 inc : IncF r
 nz : ∀ f ∈ r, f.f1 ≠ 0
 at_ : ∀ s v, (⟨s, v⟩ : SF) ∈ r ↔ mget m s = some v
theorem RepL.init {l : FS} (h : Tree l) : RepL l (contsM l) := by
 refine ⟨h.inc, fun f hf => by have := h.blob f hf; omega, fun s v => ?_⟩
 obtain ⟨h1, h2⟩ := mget_inc h.inc s
 constructor
 ·intro hm; exact h1 _ hm rfl
 ·intro e
  rcases Classical.em (∃ f ∈ l, f.f0 = s) with ⟨f, hf, rfl⟩ | hn
  ·rw [h1 f hf rfl] at e
   obtain rfl := Option.some.inj e
   exact hf
  ·rw [h2 (fun f hf e2 => hn ⟨f, hf, e2⟩)] at e; cases e
theorem there_iff {r : FS} {s : ByteArray} : thereL r s = true ↔ ∃ f ∈ r, f.f0 = s := by
 rw [thereL, List.any_eq_true]
 constructor
 ·rintro ⟨f, hf, e⟩; exact ⟨f, hf, of_decide_eq_true e⟩
 ·rintro ⟨f, hf, e⟩; exact ⟨f, hf, decide_eq_true e⟩
theorem RepL.there {r : FS} {m : MP} (h : RepL r m) (s : ByteArray) : (mget m s).isSome = thereL r s := by
 rw [Bool.eq_iff_iff, there_iff]
 constructor
 ·intro e
  obtain ⟨v, hv⟩ := Option.isSome_iff_exists.1 e
  exact ⟨⟨s, v⟩, (h.at_ s v).2 hv, rfl⟩
 ·rintro ⟨f, hf, rfl⟩
  rw [(h.at_ f.f0 f.f1).1 hf]; rfl
theorem RepL.put {r : FS} {m : MP} (h : RepL r m) (s : ByteArray) (v : Int) (hv : v ≠ 0) : RepL (setM r s v) (mput m s v) := by
 refine ⟨setM_inc h.inc _ _, fun f hf => ?_, fun t x => ?_⟩
 ·rcases (mem_setM f).1 hf with ⟨_, rfl⟩ | ⟨h1, _⟩
  ·exact hv
  ·exact h.nz f h1
 ·rw [mem_setM, mget_put]
  by_cases e : s = t
  ·subst e
   rw [if_pos rfl]
   constructor
   ·rintro (⟨_, e⟩ | ⟨_, e⟩)
    ·rw [(S55.mk.inj e).2]
    ·exact absurd rfl e
   ·intro e; rw [Option.some.inj e]; exact .inl ⟨by rw [← Option.some.inj e]; exact hv, rfl⟩
  ·rw [if_neg e, ← h.at_ t x]
   constructor
   ·rintro (⟨_, e2⟩ | ⟨h1, _⟩)
    ·exact absurd (S55.mk.inj e2).1.symm e
    ·exact h1
   ·intro h1; exact .inr ⟨h1, fun e2 => e e2.symm⟩
theorem RepL.del {r : FS} {m : MP} (h : RepL r m) (s : ByteArray) : RepL (setM r s 0) (mdel m s) := by
 refine ⟨setM_inc h.inc _ _, fun f hf => ?_, fun t x => ?_⟩
 ·rcases (mem_setM f).1 hf with ⟨e, _⟩ | ⟨h1, _⟩
  ·exact absurd rfl e
  ·exact h.nz f h1
 ·rw [mem_setM, mget_del]
  by_cases e : s = t
  ·subst e
   rw [if_pos rfl]
   constructor
   ·rintro (⟨e, _⟩ | ⟨_, e⟩) <;> exact absurd rfl e
   ·intro e; cases e
  ·rw [if_neg e, ← h.at_ t x]
   constructor
   ·rintro (⟨e2, _⟩ | ⟨h1, _⟩)
    ·exact absurd rfl e2
    ·exact h1
   ·intro h1; exact .inr ⟨h1, fun e2 => e e2.symm⟩
theorem RepL.files {r : FS} {m : MP} (h : RepL r m) : filesM m = r := by
 refine incF_ext ?_ h.inc (fun x => ?_)
 ·rw [filesM, IncF, List.pairwise_map]
  exact (pathsM_inc [m]).filter _
 ·rw [filesM, List.mem_map]
  constructor
  ·rintro ⟨s, hs, rfl⟩
   rw [List.mem_filter, mem_pathsM] at hs
   obtain ⟨⟨m', hm', h1⟩, _⟩ := hs
   rw [List.mem_singleton] at hm'
   subst hm'
   obtain ⟨v, hv⟩ := Option.isSome_iff_exists.1 h1
   rw [valM, hv]
   exact (h.at_ s v).2 hv
  ·intro hx
   have h1 := (h.at_ x.f0 x.f1).1 hx
   have h2 : valM m x.f0 = x.f1 := by rw [valM, h1]; rfl
   refine ⟨x.f0, List.mem_filter.2 ⟨(mem_pathsM _ _).2 ⟨m, List.mem_singleton.2 rfl, by rw [h1]; rfl⟩, decide_eq_true (by rw [h2]; exact h.nz x hx)⟩, ?_⟩
   rw [h2]
def applyR : FS → List SC → Option FS
 | r, [] => some r
 | r, c :: cs => if c.f1 = 0 then (if thereL r c.f0 = true then applyR (setM r c.f0 0) cs else none) else applyR (setM r c.f0 c.f1) cs
theorem apply_rel : ∀ (cs : List SC) {r : FS} {m : MP}, RepL r m → (applyR r cs = none ∧ applyM m cs = none) ∨ ∃ r' m', applyR r cs = some r' ∧ applyM m cs = some m' ∧ RepL r' m'
 | [], r, m, h => .inr ⟨r, m, rfl, rfl, h⟩
 | c :: cs, r, m, h => by
  rw [applyR, applyM]
  by_cases e : c.f1 = 0
  ·rw [if_pos e, if_pos e, h.there]
   by_cases e2 : thereL r c.f0 = true
   ·rw [if_pos e2, if_pos e2]; exact apply_rel cs (h.del _)
   ·rw [if_neg e2, if_neg e2]; exact .inl ⟨rfl, rfl⟩
  ·rw [if_neg e, if_neg e]; exact apply_rel cs (h.put _ _ e)
theorem applyR_size : ∀ (cs : List SC) {r r' : FS}, applyR r cs = some r' → (∀ f ∈ r, f.f0.size ≤ 140737488351232) → (∀ c ∈ cs, c.f0.size ≤ 140737488351232) → (∀ f ∈ r', f.f0.size ≤ 140737488351232) ∧ r'.length ≤ r.length + cs.length
 | [], r, r', h, hr, _ => by
  obtain rfl := Option.some.inj h
  exact ⟨hr, Nat.le_add_right _ _⟩
 | c :: cs, r, r', h, hr, hc => by
  have hset : ∀ b, ∀ f ∈ setM r c.f0 b, f.f0.size ≤ 140737488351232 := fun b f hf => by
   rcases (mem_setM f).1 hf with ⟨_, rfl⟩ | ⟨h1, _⟩
   ·exact hc c List.mem_cons_self
   ·exact hr f h1
  have go : ∀ b, applyR (setM r c.f0 b) cs = some r' → _ := fun b e => applyR_size cs e (hset b) (fun c hc' => hc c (List.mem_cons_of_mem _ hc'))
  rw [applyR] at h
  have fin : ∀ b, applyR (setM r c.f0 b) cs = some r' → (∀ f ∈ r', f.f0.size ≤ 140737488351232) ∧ r'.length ≤ r.length + (c :: cs).length := fun b e => by
   obtain ⟨h1, h2⟩ := go b e
   have := setM_len r c.f0 b
   refine ⟨h1, ?_⟩
   rw [List.length_cons]; omega
  by_cases e : c.f1 = 0
  ·rw [if_pos e] at h
   by_cases e2 : thereL r c.f0 = true
   ·rw [if_pos e2] at h; exact fin _ h
   ·rw [if_neg e2] at h; cases h
  ·rw [if_neg e] at h; exact fin _ h
def applyOut (l : FS) (c : List SC) : FS × Int :=
 if rightM l = 0 then (if c.length > 16 then ([], 4) else match applyR l c with
  | none => ([], 8)
  | some r => if rightM r = 0 then (r, 0) else ([], rightM r)) else ([], rightM l)
theorem Apply_is (l : FS) (c : List SC) (hs : ∀ f ∈ l, f.f0.size ≤ 140737488351232) (hc : ∀ x ∈ c, x.f0.size ≤ 140737488351232 ∧ okI x.f1 = true) : Ev (fun k => tree_Apply.f k l c) (applyOut l c) := by
 refine Ev.bind (Right_is l hs) ?_
 rw [applyOut]
 by_cases h : rightM l = 0
 ·rw [if_pos h]
  refine Ev.ite_pos h ?_
  by_cases h16 : (c.length : Int) > 16
  ·rw [if_pos (by omega)]
   exact Ev.ite_pos h16 (Ev.now _)
  rw [if_neg (by omega)]
  have ht := tree_of h
  have hl := ht.len
  have hoc : okCs c = true := by
   rw [okCs, List.all_eq_true]
   intro x hx
   rw [Bool.and_eq_true]
   exact ⟨decide_eq_true (hc x hx).1, (hc x hx).2⟩
  refine Ev.ite_neg h16 (Ev.ite_pos ⟨okFs_tree ht, hoc, by omega⟩ ?_)
  rcases apply_rel c (RepL.init ht) with ⟨e1, e2⟩ | ⟨r, m, e1, e2, hr⟩
  ·rw [e1, e2]
   exact Ev.ite_pos rfl (Ev.now _)
  ·rw [e1, e2]
   refine Ev.ite_neg (by simp) ?_
   rw [Option.getD_some, hr.files]
   refine Ev.bind (Right_is r (applyR_size c e1 hs (fun x hx => (hc x hx).1)).1) ?_
   by_cases e3 : rightM r = 0
   ·rw [show (match some r with | none => (([] : FS), (8 : Int)) | some r => if rightM r = 0 then (r, 0) else ([], rightM r)) = (r, 0) from if_pos e3]
    exact Ev.ite_pos e3 (Ev.now _)
   ·rw [show (match some r with | none => (([] : FS), (8 : Int)) | some r => if rightM r = 0 then (r, 0) else ([], rightM r)) = ([], rightM r) from if_neg e3]
    exact Ev.ite_neg e3 (Ev.now _)
 ·rw [if_neg h]
  exact Ev.ite_neg h (Ev.now _)
theorem blob_set {r : FS} (h : IncF r) (p : ByteArray) (b : Int) (s : ByteArray) : blobL (setM r p b) s = if p = s then b else blobL r s := by
 have hi := setM_inc h p b
 by_cases e : p = s
 ·subst e
  rw [if_pos rfl]
  by_cases e0 : b = 0
  ·rw [e0, blobL_none]
   intro f hf e2
   rcases (mem_setM f).1 hf with ⟨e3, _⟩ | ⟨_, e3⟩
   ·exact e3 rfl
   ·exact e3 e2
  ·exact blobL_mem hi ((mem_setM _).2 (.inl ⟨e0, rfl⟩))
 ·rw [if_neg e]
  rcases Classical.em (∃ f ∈ r, f.f0 = s) with ⟨f, hf, rfl⟩ | hn
  ·rw [blobL_mem h hf]
   exact blobL_mem hi ((mem_setM f).2 (.inr ⟨hf, fun e2 => e e2.symm⟩))
  ·rw [blobL_none (fun f hf e2 => hn ⟨f, hf, e2⟩), blobL_none]
   intro f hf e2
   rcases (mem_setM f).1 hf with ⟨_, rfl⟩ | ⟨h1, _⟩
   ·exact e e2
   ·exact hn ⟨f, h1, e2⟩

theorem there_is (l : FS) (s : ByteArray) (hl : l.length ≤ 1000000) : Ev (fun k => r25_there.f k l s) (thereL l s) := by
 have key : ∀ d (i : Nat), i + d = l.length → Ev (fun k => r25_there.l0 k l s (i : Int)) (thereL (l.drop i) s) := by
  intro d
  induction d with
  | zero =>
   intro i hi
   rw [List.drop_of_length_le (by omega)]
   refine Ev.step (f := fun _ => some false) (fun k => ?_) (Ev.now _)
   rw [r25_there.l0, if_neg (by omega)]
  | succ d ih =>
   intro i hi
   have hlt : i < l.length := by omega
   rw [drop_cons l i hlt, thereL, List.any_cons]
   refine Ev.step (fun k => by rw [r25_there.l0, if_pos (show (i : Int) < (l.length : Int) by omega), if_pos (by omega), rdF_nat l i hlt, w1 i (by omega)]) ?_
   by_cases h : l[i].f0 = s
   ·rw [decide_eq_true h, Bool.true_or]
    exact Ev.ite_pos (toList_eq_iff.2 h) (Ev.now _)
   ·rw [decide_eq_false h, Bool.false_or]
    exact Ev.ite_neg (fun e => h (toList_eq_iff.1 e)) (ih (i + 1) (by omega))
 exact key l.length 0 (by omega)
theorem rApply_is (l : FS) (c : List SC) : Ev (fun k => r25_Apply.f k l c) (applyOut l c) := by
 refine Ev.bind (rRight_is l) ?_
 rw [applyOut]
 by_cases h : rightM l = 0
 ·rw [if_pos h]
  refine Ev.ite_pos h ?_
  by_cases h16 : (c.length : Int) > 16
  ·rw [if_pos (by omega)]
   exact Ev.ite_pos h16 (Ev.now _)
  rw [if_neg (by omega)]
  have ht := tree_of h
  have hl := ht.len
  refine Ev.ite_neg h16 ?_
  have key : ∀ d (i : Nat) (r : FS), i + d = c.length → r.length ≤ 32 + i → Ev (fun k => r25_Apply.l0 k c r (i : Int)) (match applyR r (c.drop i) with | none => ([], 8) | some r => if rightM r = 0 then (r, 0) else ([], rightM r)) := by
   intro d
   induction d with
   | zero =>
    intro i r hi hr
    rw [List.drop_of_length_le (by omega), applyR]
    refine Ev.step (fun k => by rw [r25_Apply.l0, if_neg (by omega)]) (Ev.bind (rRight_is r) ?_)
    by_cases e3 : rightM r = 0
    ·rw [show (match some r with | none => (([] : FS), (8 : Int)) | some r => if rightM r = 0 then (r, 0) else ([], rightM r)) = (r, 0) from if_pos e3]
     exact Ev.ite_pos e3 (Ev.now _)
    ·rw [show (match some r with | none => (([] : FS), (8 : Int)) | some r => if rightM r = 0 then (r, 0) else ([], rightM r)) = ([], rightM r) from if_neg e3]
     exact Ev.ite_neg e3 (Ev.now _)
   | succ d ih =>
    intro i r hi hr
    have hlt : i < c.length := by omega
    rw [drop_cons c i hlt, applyR]
    refine Ev.step (fun k => by rw [r25_Apply.l0, if_pos (show (i : Int) < (c.length : Int) by omega), if_pos (by omega), rdC_nat c i hlt, w1 i (by omega)]) ?_
    by_cases e : c[i].f1 = 0
    ·rw [if_pos e]
     refine Ev.ite_pos e (Ev.bind (there_is r _ (by omega)) ?_)
     by_cases e2 : thereL r c[i].f0 = true
     ·rw [if_pos e2]
      refine Ev.ite_pos e2 (Ev.bind (Set_is r _ _ (by omega)) ?_)
      rw [e]
      exact ih (i + 1) _ (by omega) (by have := setM_len r c[i].f0 0; omega)
     ·rw [if_neg e2]
      exact Ev.ite_neg e2 (Ev.now _)
    ·rw [if_neg e]
     refine Ev.ite_neg e (Ev.bind (Set_is r _ _ (by omega)) ?_)
     exact ih (i + 1) _ (by omega) (by have := setM_len r c[i].f0 c[i].f1; omega)
  have := key c.length 0 l (by omega) (by omega)
  rw [List.drop_zero] at this
  exact this
 ·rw [if_neg h]
  exact Ev.ite_neg h (Ev.now _)

abbrev CM := S28
theorem rdM_nat (l : List CM) (i : Nat) (h : i < l.length) : rd_T28 l (i : Int) = l[i] := by
 simp [rd_T28, List.getD_eq_getElem?_getD, List.getElem?_eq_getElem h]
theorem hGet_is (l : List CM) (x : Int) (hl : l.length ≤ 1000000) : Ev (fun k => history_Get.f k l x) (getR l x) :=
 ⟨l.length + 1, fun k hk => by
  have := get_l0 l x hl l.length 0 k (by omega) (by omega)
  rwa [List.drop_zero] at this⟩
theorem rGet_l0 (l : List CM) (x : Int) (hl : l.length ≤ 1000000) : ∀ d (i : Nat), i + d = l.length → Ev (fun k => r26_Get.l0 k l x (i : Int)) (getR (l.drop i) x) := by
 intro d
 induction d with
 | zero =>
  intro i hi
  refine Ev.step (f := fun _ => some (getR (l.drop i) x)) (fun k => ?_) (Ev.now _)
  rw [r26_Get.l0, if_neg (by omega), List.drop_of_length_le (by omega)]
  rfl
 | succ d ih =>
  intro i hi
  have hlt : i < l.length := by omega
  have hd : l.drop i = l[i] :: l.drop (i + 1) := List.drop_eq_getElem_cons hlt
  by_cases h : l[i].f0 = x
  ·refine Ev.step (f := fun _ => some (getR (l.drop i) x)) (fun k => ?_) (Ev.now _)
   rw [r26_Get.l0, if_pos (by omega), if_pos (by omega), rdM_nat l i hlt, if_pos h, hd, getR, getH, List.find?_cons]
   simp [h]
  ·have e : getR (l.drop i) x = getR (l.drop (i + 1)) x := by
    rw [hd, getR, getH, List.find?_cons]
    simp [h, getR, getH]
   rw [e]
   refine Ev.step (fun k => ?_) (ih (i + 1) (by omega))
   rw [r26_Get.l0, if_pos (by omega), if_pos (by omega), rdM_nat l i hlt, if_neg h, w1 i (by omega)]
theorem rGet_is (l : List CM) (x : Int) (hl : l.length ≤ 1000000) : Ev (fun k => r26_Get.f k l x) (getR l x) := by
 have := rGet_l0 l x hl l.length 0 (by omega)
 rw [List.drop_zero] at this
 exact this
def fparM (fl : List (Int × FS)) : List Int → FS
 | [] => []
 | p :: _ => if p = 0 then [] else (fget fl p).getD []
def afterM (fl : List (Int × FS)) (c : CM) : FS × Int := applyOut (fparM fl c.f1) c.f2
def filesM' (l : List CM) : List (Int × FS) := l.foldl (fun fl c => fl ++ [(c.f0, (afterM fl c).1)]) []
theorem filesM'_snoc (l : List CM) (c : CM) : filesM' (l ++ [c]) = filesM' l ++ [(c.f0, (afterM (filesM' l) c).1)] := by
 rw [filesM', List.foldl_append]; rfl
theorem snoc_ind {α : Type} {P : List α → Prop} (h0 : P []) (h1 : ∀ l a, P l → P (l ++ [a])) (l : List α) : P l := by
 have key : ∀ n (l : List α), l.length = n → P l := by
  intro n
  induction n with
  | zero => intro l h; rw [List.eq_nil_of_length_eq_zero h]; exact h0
  | succ n ih =>
   intro l h
   have hne : l ≠ [] := fun e => by rw [e] at h; cases h
   rw [← List.dropLast_concat_getLast hne]
   exact h1 _ _ (ih _ (by rw [List.length_dropLast]; omega))
 exact key _ l rfl
theorem idxH_lt (x : Int) : ∀ (l : List CM) (s i : Nat), idxH x l s = some i → s ≤ i ∧ i < s + l.length
 | [], s, i, h => by cases h
 | c :: cs, s, i, h => by
  rw [idxH] at h
  by_cases e : c.f0 = x
  ·rw [if_pos e] at h
   obtain rfl := Option.some.inj h
   rw [List.length_cons]; omega
  ·rw [if_neg e] at h
   have := idxH_lt x cs (s + 1) i h
   rw [List.length_cons]; omega
theorem idxH_app (x : Int) (c : CM) : ∀ (l : List CM) (s : Nat), idxH x (l ++ [c]) s = match idxH x l s with | some i => some i | none => if c.f0 = x then some (s + l.length) else none
 | [], s => by
  show idxH x [c] s = _
  rw [idxH]
  by_cases e : c.f0 = x
  ·rw [if_pos e]; simp [idxH, e]
  ·rw [if_neg e]; simp [idxH, e]
 | d :: ds, s => by
  show idxH x (d :: (ds ++ [c])) s = _
  rw [idxH, idxH]
  by_cases e : d.f0 = x
  ·rw [if_pos e, if_pos e]
  ·rw [if_neg e, if_neg e, idxH_app x c ds (s + 1), List.length_cons, show s + 1 + ds.length = s + (ds.length + 1) by omega]
theorem fget_app (x : Int) (e : Int × FS) : ∀ (fl : List (Int × FS)), fget (fl ++ [e]) x = match fget fl x with | some f => some f | none => if e.1 = x then some e.2 else none
 | [] => by
  show fget [e] x = _
  rw [fget]
  by_cases h : e.1 = x
  ·rw [if_pos h]; simp [fget, h]
  ·rw [if_neg h]; simp [fget, h]
 | p :: fl => by
  show fget (p :: (fl ++ [e])) x = _
  rw [fget, fget]
  by_cases h : p.1 = x
  ·rw [if_pos h, if_pos h]
  ·rw [if_neg h, if_neg h, fget_app x e fl]
theorem fget_files (x : Int) (l : List CM) : fget (filesM' l) x = (idxH x l 0).bind fun i => (l[i]?).map fun c => (afterM (filesM' (l.take i)) c).1 := by
 refine snoc_ind (P := fun l => fget (filesM' l) x = (idxH x l 0).bind fun i => (l[i]?).map fun c => (afterM (filesM' (l.take i)) c).1) rfl (fun l c ih => ?_) l
 rw [filesM'_snoc, fget_app, idxH_app, ih]
 cases hi : idxH x l 0 with
 | some i =>
  have hlt := (idxH_lt x l 0 i hi).2
  rw [Nat.zero_add] at hlt
  simp only [Option.bind_some]
  rw [List.getElem?_append_left hlt, List.take_append_of_le_length (by omega), List.getElem?_eq_getElem hlt]
  rfl
 | none =>
  simp only [Option.bind_none, Nat.zero_add]
  by_cases e : c.f0 = x
  ·rw [if_pos e, if_pos e]
   simp
  ·rw [if_neg e, if_neg e]; rfl
def rTreeM (l : List CM) (x : Int) : FS × Int := if x = 0 then ([], 0) else match fget (filesM' l) x with | none => ([], 8) | some f => (f, 0)
theorem rTreeM_par (l : List CM) (p : Int) : (rTreeM l p).1 = if p = 0 then [] else (fget (filesM' l) p).getD [] := by
 rw [rTreeM]
 by_cases h : p = 0
 ·rw [if_pos h, if_pos h]
 ·rw [if_neg h, if_neg h]
  cases fget (filesM' l) p <;> rfl
theorem rAfter_of (l : List CM) (c : CM) (hT : ∀ p, Ev (fun k => r26_Tree.f k l p) (rTreeM l p)) : Ev (fun k => r26_after.f k l c.f0 c.f1 c.f2 c.f3 c.f4) (afterM (filesM' l) c) := by
 cases hc : c.f1 with
 | nil =>
  rw [afterM, hc]
  exact rApply_is [] c.f2
 | cons p ps =>
  refine Ev.congr (fun k => rfl) (Ev.bind (hT p) ?_)
  rw [afterM, hc, rTreeM_par]
  exact rApply_is _ c.f2
theorem rTree_is : ∀ (n : Nat) (l : List CM), l.length = n → ∀ x, Ev (fun k => r26_Tree.f k l x) (rTreeM l x) := by
 intro n
 induction n using Nat.strongRecOn with
 | _ n ih =>
  intro l hl x
  by_cases h0 : x = 0
  ·refine Ev.step (f := fun _ => some (rTreeM l x)) (fun k => ?_) (Ev.now _)
   rw [r26_Tree.f_succ, if_pos h0, rTreeM, if_pos h0]
  ·rw [rTreeM, if_neg h0, fget_files]
   cases hi : idxH x l 0 with
   | none =>
    refine Ev.step (f := fun _ => some (([] : FS), (8 : Int))) (fun k => ?_) (Ev.now _)
    rw [r26_Tree.f_succ, if_neg h0, hi]
   | some i =>
    have hlt := (idxH_lt x l 0 i hi).2
    rw [Nat.zero_add] at hlt
    have hA := rAfter_of (l.take i) l[i] (fun p => ih i (by omega) (l.take i) (by rw [List.length_take]; omega) p)
    refine Ev.step (f := fun k => (r26_after.f k (l.take i) l[i].f0 l[i].f1 l[i].f2 l[i].f3 l[i].f4).bind fun r => some (r.1, (0 : Int))) (fun k => ?_) (Ev.bind hA ?_)
    ·rw [r26_Tree.f_succ, if_neg h0, hi]
     simp only [List.getElem?_eq_getElem hlt, Option.bind_some]
     cases r26_after.f k (l.take i) l[i].f0 l[i].f1 l[i].f2 l[i].f3 l[i].f4 <;> rfl
    ·simp only [Option.bind_some, List.getElem?_eq_getElem hlt, Option.map_some]
     exact Ev.now _
theorem rAfter_is (l : List CM) (c : CM) : Ev (fun k => r26_after.f k l c.f0 c.f1 c.f2 c.f3 c.f4) (afterM (filesM' l) c) := rAfter_of l c (fun p => rTree_is _ l rfl p)

def lastId (l : List CM) : Int := (l.getLast?.map (·.f0)).getD 0
theorem lastId_snoc (l : List CM) (c : CM) : lastId (l ++ [c]) = c.f0 := by simp [lastId]
def lateR (l : List CM) (t : Int) : List Int → Bool
 | [] => false
 | p :: ps => (match getH l p with | some q => decide (t < q.f3) | none => false) || lateR l t ps
def goneR (l : List CM) : List Int → Bool
 | [] => false
 | p :: ps => (getH l p).isNone || goneR l ps
def checkM (l : List CM) (c : CM) : Int :=
 if numsG c (lastId l) = true then 2 else if lateR l c.f3 c.f1 = true then 2 else if 2 < c.f1.length then 4 else if 16 < c.f2.length then 4 else if goneR l c.f1 = true then 8 else if twiceG c.f1 = true then 7 else (afterM (filesM' l) c).2
theorem num_l0 (l : List CM) (c : CM) (hl : l.length ≤ 1000000) (hp : c.f1.length ≤ 1000000) : ∀ d (i : Nat), i + d = c.f1.length → Ev (fun k => r26_numbers.l0 k l (i : Int) c.f0 c.f1 c.f2 c.f3 c.f4) (!lateR l c.f3 (c.f1.drop i)) := by
 intro d
 induction d with
 | zero =>
  intro i hi
  refine Ev.step (f := fun _ => some (!lateR l c.f3 (c.f1.drop i))) (fun k => ?_) (Ev.now _)
  rw [r26_numbers.l0, if_neg (by omega), List.drop_of_length_le (by omega)]
  rfl
 | succ d ih =>
  intro i hi
  have hlt : i < c.f1.length := by omega
  have hd : c.f1.drop i = c.f1[i] :: c.f1.drop (i + 1) := List.drop_eq_getElem_cons hlt
  rw [hd, lateR]
  refine Ev.step (fun k => by rw [r26_numbers.l0, if_pos (show (i : Int) < (c.f1.length : Int) by omega), if_pos (show (0 : Int) ≤ (i : Int) by omega), rd_nat c.f1 i hlt, w1 i (by omega)]) (Ev.bind (rGet_is l c.f1[i] hl) ?_)
  cases hg : getH l c.f1[i] with
  | none =>
   rw [getR_none hg]
   exact Ev.ite_neg (by simp) (by simpa using ih (i + 1) (by omega))
  | some q =>
   rw [getR_some hg]
   refine Ev.ite_pos rfl ?_
   by_cases ht : c.f3 < q.f3
   ·refine Ev.ite_pos ht ?_
    simp only [decide_eq_true ht]
    exact Ev.now _
   ·refine Ev.ite_neg ht ?_
    simp only [decide_eq_false ht]
    simpa using ih (i + 1) (by omega)
theorem numbers_is (l : List CM) (c : CM) (hl : l.length ≤ 1000000) (hp : c.f1.length ≤ 1000000) : Ev (fun k => r26_numbers.f k l c.f0 c.f1 c.f2 c.f3 c.f4) (!numsG c (lastId l) && !lateR l c.f3 c.f1) := by
 have h0 := num_l0 l c hl hp c.f1.length 0 (by omega)
 rw [List.drop_zero] at h0
 have hj1 : ∀ b : Bool, Ev (fun k => r26_numbers.j1 k l b c.f0 c.f1 c.f2 c.f3 c.f4) (!b && !lateR l c.f3 c.f1) := by
  intro b
  cases b with
  | true => exact Ev.step (f := fun _ => some false) (fun k => by rw [r26_numbers.j1, if_pos rfl]) (Ev.now _)
  | false => exact Ev.step (fun k => by rw [r26_numbers.j1, if_neg (by decide)]) (by simpa using h0)
 have hj0 : ∀ last : Int, Ev (fun k => r26_numbers.j0 k l last c.f0 c.f1 c.f2 c.f3 c.f4) (!numsG c last && !lateR l c.f3 c.f1) := by
  intro last
  refine Ev.step (fun k => by rw [r26_numbers.j0]) ?_
  unfold numsG
  by_cases d0 : c.f0 ≤ last
  ·rw [decide_eq_true d0]; exact Ev.ite_pos d0 (by simpa using hj1 true)
  rw [decide_eq_false d0]; refine Ev.ite_neg d0 ?_
  by_cases d1 : 9999 < c.f0
  ·rw [decide_eq_true d1]; exact Ev.ite_pos d1 (by simpa using hj1 true)
  rw [decide_eq_false d1]; refine Ev.ite_neg d1 ?_
  by_cases d2 : c.f3 < 0
  ·rw [decide_eq_true d2]; exact Ev.ite_pos d2 (by simpa using hj1 true)
  rw [decide_eq_false d2]; refine Ev.ite_neg d2 ?_
  by_cases d3 : 1000000 < c.f3
  ·rw [decide_eq_true d3]; exact Ev.ite_pos d3 (by simpa using hj1 true)
  rw [decide_eq_false d3]; refine Ev.ite_neg d3 ?_
  by_cases d4 : c.f4 < 0
  ·rw [decide_eq_true d4]; exact Ev.ite_pos d4 (by simpa using hj1 true)
  rw [decide_eq_false d4]; refine Ev.ite_neg d4 ?_
  simpa using hj1 (decide (9999 < c.f4))
 by_cases hn : 0 < l.length
 ·have hw : wrap64 ((l.length : Int) - 1) = ((l.length - 1 : Nat) : Int) := by rw [w64 (by omega) (by omega)]; omega
  have hlast : lastId l = l[l.length - 1].f0 := by
   rw [lastId, List.getLast?_eq_getElem?, List.getElem?_eq_getElem (by omega)]; rfl
  refine Ev.congr (fun k => rfl) (Ev.ite_pos (by omega) ?_)
  rw [hw]
  refine Ev.ite_pos (by omega) (Ev.ite_pos (by omega) ?_)
  rw [rdM_nat l (l.length - 1) (by omega), ← hlast]
  exact hj0 _
 ·have he : l = [] := List.eq_nil_of_length_eq_zero (by omega)
  subst he
  exact Ev.congr (fun k => rfl) (Ev.ite_neg (by simp) (hj0 0))
theorem check_l0 (l : List CM) (c : CM) (hl : l.length ≤ 1000000) (hp : c.f1.length ≤ 2) : ∀ d (i : Nat), i + d = c.f1.length → Ev (fun k => r26_check.l0 k l (i : Int) c.f0 c.f1 c.f2 c.f3 c.f4) (if goneR l (c.f1.drop i) = true then 8 else if twiceG c.f1 = true then 7 else (afterM (filesM' l) c).2) := by
 intro d
 induction d with
 | zero =>
  intro i hi
  rw [List.drop_of_length_le (by omega), goneR, if_neg (by decide)]
  refine Ev.step (fun k => by rw [r26_check.l0, if_neg (show ¬ (i : Int) < (c.f1.length : Int) by omega)]) ?_
  by_cases e2 : c.f1.length = 2
  ·refine Ev.ite_pos (by omega) (Ev.ite_pos (by omega) (Ev.ite_pos (by omega) ?_))
   have h0 := rd_nat c.f1 0 (by omega)
   have h1 := rd_nat c.f1 1 (by omega)
   rw [show ((0 : Nat) : Int) = 0 from rfl] at h0
   rw [show ((1 : Nat) : Int) = 1 from rfl] at h1
   rw [h0, h1, twiceG_two c.f1 e2]
   by_cases e3 : c.f1[0] = c.f1[1]
   ·rw [decide_eq_true e3, if_pos rfl]
    exact Ev.ite_pos e3 (Ev.now _)
   ·rw [decide_eq_false e3, if_neg (by decide)]
    exact Ev.ite_neg e3 (Ev.bind (rAfter_is l c) (Ev.now _))
  ·rw [twiceG_ne c.f1 e2, if_neg (by decide)]
   exact Ev.ite_neg (by omega) (Ev.bind (rAfter_is l c) (Ev.now _))
 | succ d ih =>
  intro i hi
  have hlt : i < c.f1.length := by omega
  have hd : c.f1.drop i = c.f1[i] :: c.f1.drop (i + 1) := List.drop_eq_getElem_cons hlt
  rw [hd, goneR]
  refine Ev.step (fun k => by rw [r26_check.l0, if_pos (show (i : Int) < (c.f1.length : Int) by omega), if_pos (show (0 : Int) ≤ (i : Int) by omega), rd_nat c.f1 i hlt, w1 i (by omega)]) (Ev.bind (rGet_is l c.f1[i] hl) ?_)
  cases hg : getH l c.f1[i] with
  | none =>
   rw [getR_none hg]
   exact Ev.ite_neg (by simp) (by simpa using Ev.now (8 : Int))
  | some q =>
   rw [getR_some hg]
   exact Ev.ite_pos rfl (by simpa using ih (i + 1) (by omega))
theorem check_is (l : List CM) (c : CM) (hl : l.length ≤ 1000000) (hp : c.f1.length ≤ 1000000) : Ev (fun k => r26_check.f k l c.f0 c.f1 c.f2 c.f3 c.f4) (checkM l c) := by
 refine Ev.congr (fun k => rfl) (Ev.bind (numbers_is l c hl hp) ?_)
 unfold checkM
 cases hn : numsG c (lastId l) with
 | true => rw [if_pos rfl]; exact Ev.ite_neg (by simp) (Ev.now _)
 | false =>
  rw [if_neg (by decide)]
  cases hL : lateR l c.f3 c.f1 with
  | true => rw [if_pos rfl]; exact Ev.ite_neg (by simp) (Ev.now _)
  | false =>
   rw [if_neg (by decide)]
   refine Ev.ite_pos rfl ?_
   have hj : ∀ b : Bool, c.f1.length ≤ 2 ∨ b = true → Ev (fun k => r26_check.j0 k l b c.f0 c.f1 c.f2 c.f3 c.f4) (if b = true then 4 else if goneR l c.f1 = true then 8 else if twiceG c.f1 = true then 7 else (afterM (filesM' l) c).2) := by
    intro b hb
    cases b with
    | true => exact Ev.step (f := fun _ => some 4) (fun k => by rw [r26_check.j0, if_pos rfl]) (Ev.now _)
    | false =>
     have h0 := check_l0 l c hl (by rcases hb with h | h; exact h; cases h) c.f1.length 0 (by omega)
     rw [List.drop_zero] at h0
     exact Ev.step (fun k => by rw [r26_check.j0, if_neg (by decide)]) (by simpa using h0)
   by_cases e2 : 2 < c.f1.length
   ·rw [if_pos e2]
    exact Ev.ite_pos (by omega) (by simpa using hj true (.inr rfl))
   ·rw [if_neg e2]
    refine Ev.ite_neg (by omega) ?_
    by_cases e3 : 16 < c.f2.length
    ·rw [if_pos e3, decide_eq_true (show (c.f2.length : Int) > 16 by omega)]
     simpa using hj true (.inr rfl)
    ·rw [if_neg e3, decide_eq_false (show ¬ (c.f2.length : Int) > 16 by omega)]
     simpa using hj false (.inl (by omega))
def errM (l : List CM) : Nat → Nat → Int
 | 0, _ => 0
 | d + 1, i => match l[i]? with | none => 0 | some c => if checkM (l.take i) c = 0 then errM l d (i + 1) else checkM (l.take i) c
def rightHM (l : List CM) : Int := if 64 < l.length then 4 else errM l l.length 0
theorem rRightH_l0 (l : List CM) (hl : l.length ≤ 1000000) (hp : ∀ c ∈ l, c.f1.length ≤ 1000000) : ∀ d (i : Nat), i + d = l.length → Ev (fun k => r26_Right.l0 k l (i : Int)) (errM l d i) := by
 intro d
 induction d with
 | zero =>
  intro i hi
  refine Ev.step (f := fun _ => some (0 : Int)) (fun k => ?_) (Ev.now _)
  rw [r26_Right.l0, if_neg (by omega)]
 | succ d ih =>
  intro i hi
  have hlt : i < l.length := by omega
  rw [errM, List.getElem?_eq_getElem hlt]
  refine Ev.step (fun k => by rw [r26_Right.l0, if_pos (show (i : Int) < (l.length : Int) by omega), if_pos (show (0 : Int) ≤ (i : Int) by omega), if_pos (show (i : Int) ≤ (l.length : Int) by omega), rdM_nat l i hlt, w1 i (by omega), Int.toNat_natCast]) (Ev.bind (check_is (l.take i) l[i] (by rw [List.length_take]; omega) (hp _ (List.getElem_mem hlt))) ?_)
  by_cases e : checkM (l.take i) l[i] = 0
  ·simp only [if_pos e]
   exact ih (i + 1) (by omega)
  ·simp only [if_neg e]
   exact Ev.now _
theorem rRightH_is (l : List CM) (hl : l.length ≤ 1000000) (hp : ∀ c ∈ l, c.f1.length ≤ 1000000) : Ev (fun k => r26_Right.f k l) (rightHM l) := by
 unfold rightHM
 by_cases h : 64 < l.length
 ·rw [if_pos h]
  exact Ev.congr (fun k => rfl) (Ev.ite_pos (by omega) (Ev.now _))
 ·rw [if_neg h]
  exact Ev.congr (fun k => rfl) (Ev.ite_neg (by omega) (rRightH_l0 l hl hp l.length 0 (by omega)))

def IncI (l : List CM) : Prop := l.Pairwise (fun a b => a.f0 < b.f0) ∧ ∀ c ∈ l, 1 ≤ c.f0
theorem getH_app (l : List CM) (c : CM) (x : Int) : getH (l ++ [c]) x = match getH l x with | some q => some q | none => if c.f0 = x then some c else none := by
 unfold getH
 rw [List.find?_append]
 cases List.find? (fun c => decide (c.f0 = x)) l with
 | some q => rfl
 | none =>
  by_cases h : c.f0 = x
  ·simp [List.find?, h]
  ·simp [List.find?, h]
theorem getH_none_of {l : List CM} {x : Int} (h : ∀ c ∈ l, c.f0 ≠ x) : getH l x = none := by
 unfold getH
 rw [List.find?_eq_none]
 intro c hc
 simpa using h c hc
theorem idxH_none_of {x : Int} : ∀ {l : List CM} (s : Nat), (∀ c ∈ l, c.f0 ≠ x) → idxH x l s = none
 | [], _, _ => rfl
 | c :: cs, s, h => by
  rw [idxH, if_neg (h c List.mem_cons_self)]
  exact idxH_none_of (s + 1) (fun d hd => h d (List.mem_cons_of_mem _ hd))
theorem fget_none_of {l : List CM} {x : Int} (h : ∀ c ∈ l, c.f0 ≠ x) : fget (filesM' l) x = none := by
 rw [fget_files, idxH_none_of 0 h]; rfl
theorem IncI.snoc {l : List CM} {c : CM} (h : IncI (l ++ [c])) : IncI l ∧ (∀ d ∈ l, d.f0 < c.f0) ∧ 1 ≤ c.f0 := by
 obtain ⟨h1, h2⟩ := h
 rw [List.pairwise_append] at h1
 exact ⟨⟨h1.1, fun d hd => h2 d (List.mem_append_left _ hd)⟩, fun d hd => h1.2.2 d hd c (List.mem_singleton.2 rfl), h2 c (List.mem_append_right _ (List.mem_singleton.2 rfl))⟩
def tmM (l : List CM) : List (Int × Int) := (l.map fun c => (c.f0, c.f3)).reverse
theorem tmM_snoc (l : List CM) (c : CM) : tmM (l ++ [c]) = (c.f0, c.f3) :: tmM l := by simp [tmM]
theorem iget_tm (x : Int) (l : List CM) : IncI l → iget (tmM l) x = (getH l x).map (·.f3) := by
 refine snoc_ind (P := fun l => IncI l → iget (tmM l) x = (getH l x).map (·.f3)) (fun _ => rfl) (fun l c ih h => ?_) l
 obtain ⟨h1, h2, _⟩ := h.snoc
 rw [tmM_snoc, iget, getH_app, ih h1]
 by_cases e : c.f0 = x
 ·rw [if_pos e, getH_none_of (fun d hd => by have := h2 d hd; omega)]
  simp [e]
 ·rw [if_neg e]
  cases getH l x with
  | some q => rfl
  | none => simp [e]
theorem fget_rev (x : Int) (l : List CM) : IncI l → fget (filesM' l).reverse x = fget (filesM' l) x := by
 refine snoc_ind (P := fun l => IncI l → fget (filesM' l).reverse x = fget (filesM' l) x) (fun _ => rfl) (fun l c ih h => ?_) l
 obtain ⟨h1, h2, _⟩ := h.snoc
 rw [filesM'_snoc, List.reverse_append, List.reverse_singleton, List.singleton_append, fget, fget_app, ih h1]
 by_cases e : c.f0 = x
 ·rw [if_pos e, fget_none_of (fun d hd => by have := h2 d hd; omega)]
  simp [e]
 ·rw [if_neg e]
  cases fget (filesM' l) x with
  | some q => rfl
  | none => simp [e]
theorem lateG_is {l : List CM} (h : IncI l) (t : Int) : ∀ ps, lateG t (tmM l) ps = lateR l t ps
 | [] => rfl
 | p :: ps => by
  rw [lateG, lateR, iget_tm p l h, lateG_is h t ps]
  cases getH l p <;> rfl
theorem goneG_is {l : List CM} (h : IncI l) : ∀ ps, goneG (tmM l) ps = goneR l ps
 | [] => rfl
 | p :: ps => by
  rw [goneG, goneR, iget_tm p l h, goneG_is h ps]
  cases getH l p <;> rfl
theorem before_is {l : List CM} (h : IncI l) {ps : List Int} (hg : goneR l ps = false) : beforeH (filesM' l).reverse ps = fparM (filesM' l) ps := by
 cases ps with
 | nil => rfl
 | cons p ps =>
  rw [goneR, Bool.or_eq_false_iff] at hg
  have hne : p ≠ 0 := by
   intro e
   cases hq : getH l p with
   | none => rw [hq] at hg; cases hg.1
   | some q => have := h.2 q (getH_mem hq); rw [getH_id hq] at this; omega
  rw [beforeH, fparM, if_neg hne, fget_rev p l h]
theorem checkM_one {l : List CM} (h : IncI l) (c : CM) : checkM l c = if oneG c (lastId l) (tmM l) = 0 then (afterM (filesM' l) c).2 else oneG c (lastId l) (tmM l) := by
 unfold checkM oneG
 rw [lateG_is h, goneG_is h]
 by_cases d0 : numsG c (lastId l) = true
 ·rw [if_pos d0, if_pos d0, if_neg (by decide)]
 rw [if_neg d0, if_neg d0]
 by_cases d1 : lateR l c.f3 c.f1 = true
 ·rw [if_pos d1, if_pos d1, if_neg (by decide)]
 rw [if_neg d1, if_neg d1]
 by_cases d2 : 2 < c.f1.length
 ·rw [if_pos d2, if_pos d2, if_neg (by decide)]
 rw [if_neg d2, if_neg d2]
 by_cases d3 : 16 < c.f2.length
 ·rw [if_pos d3, if_pos d3, if_neg (by decide)]
 rw [if_neg d3, if_neg d3]
 by_cases d4 : goneR l c.f1 = true
 ·rw [if_pos d4, if_pos d4, if_neg (by decide)]
 rw [if_neg d4, if_neg d4]
 by_cases d5 : twiceG c.f1 = true
 ·rw [if_pos d5, if_pos d5, if_neg (by decide)]
 rw [if_neg d5, if_neg d5, if_pos rfl]
theorem oneG_zero {c : CM} {last : Int} {tm : List (Int × Int)} (h : oneG c last tm = 0) : numsG c last = false ∧ lateG c.f3 tm c.f1 = false ∧ c.f1.length ≤ 2 ∧ c.f2.length ≤ 16 ∧ goneG tm c.f1 = false ∧ twiceG c.f1 = false := by
 unfold oneG at h
 by_cases d0 : numsG c last = true
 ·rw [if_pos d0] at h; cases h
 rw [if_neg d0] at h
 by_cases d1 : lateG c.f3 tm c.f1 = true
 ·rw [if_pos d1] at h; cases h
 rw [if_neg d1] at h
 by_cases d2 : 2 < c.f1.length
 ·rw [if_pos d2] at h; cases h
 rw [if_neg d2] at h
 by_cases d3 : 16 < c.f2.length
 ·rw [if_pos d3] at h; cases h
 rw [if_neg d3] at h
 by_cases d4 : goneG tm c.f1 = true
 ·rw [if_pos d4] at h; cases h
 rw [if_neg d4] at h
 by_cases d5 : twiceG c.f1 = true
 ·rw [if_pos d5] at h; cases h
 exact ⟨by simpa using d0, by simpa using d1, by omega, by omega, by simpa using d4, by simpa using d5⟩
theorem numsG_false {c : CM} {last : Int} (h : numsG c last = false) : last < c.f0 ∧ c.f0 ≤ 9999 ∧ 0 ≤ c.f3 ∧ c.f3 ≤ 1000000 ∧ 0 ≤ c.f4 ∧ c.f4 ≤ 9999 := by
 unfold numsG at h
 simp only [Bool.or_eq_false_iff, decide_eq_false_iff_not] at h
 omega
def okX (c : CM) : Prop := ∀ x ∈ c.f2, x.f0.size ≤ 140737488351232 ∧ okI x.f1 = true
def okF (f : FS) : Prop := ∀ x ∈ f, x.f0.size ≤ 140737488351232
theorem okF_apply {f : FS} {cs : List SC} (hf : okF f) (hc : ∀ x ∈ cs, x.f0.size ≤ 140737488351232) : okF (applyOut f cs).1 := by
 unfold applyOut
 by_cases e : rightM f = 0
 ·rw [if_pos e]
  by_cases e2 : cs.length > 16
  ·rw [if_pos e2]; intro x hx; cases hx
  ·rw [if_neg e2]
   cases hr : applyR f cs with
   | none => intro x hx; cases hx
   | some r =>
    have h3 := (applyR_size cs hr hf hc).1
    by_cases e3 : rightM r = 0
    ·simp only [if_pos e3]; exact h3
    ·simp only [if_neg e3]; intro x hx; cases hx
 ·rw [if_neg e]; intro x hx; cases hx
theorem okF_par {fl : List (Int × FS)} (h : ∀ e ∈ fl, okF e.2) (ps : List Int) : okF (fparM fl ps) := by
 cases ps with
 | nil => intro x hx; cases hx
 | cons p ps =>
  rw [fparM]
  by_cases e : p = 0
  ·rw [if_pos e]; intro x hx; cases hx
  ·rw [if_neg e]
   have key : ∀ fl : List (Int × FS), (∀ e ∈ fl, okF e.2) → okF ((fget fl p).getD []) := by
    intro fl
    induction fl with
    | nil => intro _ x hx; cases hx
    | cons q fl ih =>
     intro h
     rw [fget]
     by_cases e : q.1 = p
     ·rw [if_pos e]; exact h q List.mem_cons_self
     ·rw [if_neg e]; exact ih (fun e he => h e (List.mem_cons_of_mem _ he))
   exact key fl h
theorem okF_files (l : List CM) : (∀ c ∈ l, okX c) → ∀ e ∈ filesM' l, okF e.2 := by
 refine snoc_ind (P := fun l => (∀ c ∈ l, okX c) → ∀ e ∈ filesM' l, okF e.2) (fun _ e he => by cases he) (fun l c ih h e he => ?_) l
 have ih := ih (fun d hd => h d (List.mem_append_left _ hd))
 rw [filesM'_snoc, List.mem_append, List.mem_singleton] at he
 rcases he with he | rfl
 ·exact ih e he
 ·exact okF_apply (okF_par ih _) (fun x hx => (h c (List.mem_append_right _ (List.mem_singleton.2 rfl)) x hx).1)
theorem lastId_nn {l : List CM} (h : IncI l) : 0 ≤ lastId l ∧ ∀ c ∈ l, c.f0 ≤ lastId l := by
 revert h
 refine snoc_ind (P := fun l => IncI l → 0 ≤ lastId l ∧ ∀ c ∈ l, c.f0 ≤ lastId l) (fun _ => ⟨by decide, fun c hc => by cases hc⟩) (fun l c _ h => ?_) l
 obtain ⟨h1, h2, h3⟩ := h.snoc
 rw [lastId_snoc]
 refine ⟨by omega, fun d hd => ?_⟩
 rcases List.mem_append.1 hd with hd | hd
 ·exact Int.le_of_lt (h2 d hd)
 ·rw [List.mem_singleton.1 hd]; exact Int.le_refl _
theorem IncI.push {l : List CM} {c : CM} (h : IncI l) (hc : lastId l < c.f0) : IncI (l ++ [c]) := by
 obtain ⟨h0, h1⟩ := lastId_nn h
 refine ⟨List.pairwise_append.2 ⟨h.1, List.pairwise_singleton _ _, fun a ha b hb => ?_⟩, fun d hd => ?_⟩
 ·rw [List.mem_singleton.1 hb]; have := h1 a ha; omega
 ·rcases List.mem_append.1 hd with hd | hd
  ·exact h.2 d hd
  ·rw [List.mem_singleton.1 hd]; omega
theorem pRight_at (l : List CM) (hx : ∀ c ∈ l, okX c) (hc : ∀ c ∈ l, okC c = true) : ∀ d (i : Nat), i + d = l.length → IncI (l.take i) → Ev (fun k => rightH k (l.drop i) (lastId (l.take i)) (tmM (l.take i)) (filesM' (l.take i)).reverse) (errM l d i) := by
 intro d
 induction d with
 | zero =>
  intro i hi _
  rw [List.drop_of_length_le (by omega)]
  exact Ev.now _
 | succ d ih =>
  intro i hi hinc
  have hlt : i < l.length := by omega
  have hck := checkM_one hinc l[i]
  have htk : l.take (i + 1) = l.take i ++ [l[i]] := (take_snoc l i hlt).symm
  rw [errM, List.getElem?_eq_getElem hlt, List.drop_eq_getElem_cons hlt]
  refine Ev.congr (fun k => rfl) (Ev.ite_pos (hc _ (List.getElem_mem hlt)) ?_)
  simp only []
  by_cases e1 : oneG l[i] (lastId (l.take i)) (tmM (l.take i)) = 0
  ·rw [if_pos e1] at hck
   have hz := oneG_zero e1
   have hb : beforeH (filesM' (l.take i)).reverse l[i].f1 = fparM (filesM' (l.take i)) l[i].f1 := before_is hinc (by rw [← goneG_is hinc]; exact hz.2.2.2.2.1)
   refine Ev.ite_pos e1 ?_
   rw [hb]
   have hA := Apply_is (fparM (filesM' (l.take i)) l[i].f1) l[i].f2 (okF_par (okF_files _ (fun c hc' => hx c (List.mem_of_mem_take hc'))) _) (hx _ (List.getElem_mem hlt))
   refine Ev.bind hA ?_
   rw [hck]
   show Ev _ (if (applyOut (fparM (filesM' (l.take i)) l[i].f1) l[i].f2).2 = 0 then errM l d (i + 1) else (applyOut (fparM (filesM' (l.take i)) l[i].f1) l[i].f2).2)
   by_cases e2 : (applyOut (fparM (filesM' (l.take i)) l[i].f1) l[i].f2).2 = 0
   ·rw [if_pos e2]
    refine Ev.ite_pos e2 ?_
    have h2 := ih (i + 1) (by omega) (by rw [htk]; exact hinc.push (numsG_false hz.1).1)
    rw [htk, lastId_snoc, tmM_snoc, filesM'_snoc, List.reverse_append, List.reverse_singleton, List.singleton_append] at h2
    exact h2
   ·rw [if_neg e2]
    exact Ev.ite_neg e2 (Ev.now _)
  ·rw [if_neg e1] at hck
   rw [hck, if_neg e1]
   exact Ev.ite_neg e1 (Ev.now _)
theorem pRight_is (l : List CM) (hx : ∀ c ∈ l, okX c) (hc : ∀ c ∈ l, okC c = true) : Ev (fun k => history_Right.f k l) (rightHM l) := by
 unfold rightHM
 by_cases h : 64 < l.length
 ·rw [if_pos h]
  exact Ev.congr (fun k => rfl) (Ev.ite_pos (by omega) (Ev.now _))
 ·rw [if_neg h]
  refine Ev.congr (fun k => rfl) (Ev.ite_neg (by omega) ?_)
  have := pRight_at l hx hc l.length 0 (by omega) ⟨List.Pairwise.nil, fun c hc => by cases hc⟩
  rw [List.drop_zero] at this
  exact this

theorem Same_self (l : List Int) (hl : l.length ≤ 9223372036854775000) : Ev (fun k => r05_Same.f k l l) true := by
 have key : ∀ d (i : Nat), i + d = l.length → Ev (fun k => r05_Same.l0 k l l (i : Int)) true := by
  intro d
  induction d with
  | zero =>
   intro i hi
   refine Ev.step (f := fun _ => some true) (fun k => ?_) (Ev.now _)
   rw [r05_Same.l0, if_neg (show ¬ (i : Int) < (l.length : Int) by omega)]
  | succ d ih =>
   intro i hi
   refine Ev.step (fun k => ?_) (ih (i + 1) (by omega))
   rw [r05_Same.l0, if_pos (show (i : Int) < (l.length : Int) by omega), if_pos (show (0 : Int) ≤ (i : Int) by omega), if_pos (show (i : Int) < (l.length : Int) by omega), if_pos rfl, w64 (by omega) (by omega)]
   rfl
 exact Ev.congr (fun k => by rw [r05_Same.f, if_pos rfl]; rfl) (key l.length 0 (by omega))
def andS (a b : List Int) : List Int := (uniq a).filter fun x => (uniq b).contains x
def minusS (a b : List Int) : List Int := (uniq a).filter fun x => !(uniq b).contains x
def orS (a b : List Int) : List Int := uniq (a ++ b)
theorem minusS_srt (a b : List Int) : (minusS a b).Pairwise (· < ·) := (uniq_srt a).filter _
theorem mem_minusS (a b : List Int) (x : Int) : x ∈ minusS a b ↔ x ∈ a ∧ x ∉ b := by simp [minusS, mem_uniq]
theorem minusS_len (a b : List Int) : (minusS a b).length ≤ a.length := Nat.le_trans (List.length_filter_le _ _) (uniq_len a)
theorem rdX_at (l : List SC) (i : Nat) (h : i < l.length) : rd_T53 l (i : Int) = l[i] := by
 simp [rd_T53, List.getD_eq_getElem?_getD, List.getElem?_eq_getElem h]
def fewX (l : List SC) : Bool := l.all fun x => decide (x.f0.size ≤ 100)
def fewC (l : List CM) : Bool := l.all fun c => decide (c.f1.length ≤ 20) && decide (c.f2.length ≤ 20) && fewX c.f2
def fewM (l : List CM) : Bool := decide (l.length ≤ 70) && fewC l
theorem fewX_cons (x : SC) (xs : List SC) : fewX (x :: xs) = (decide (x.f0.size ≤ 100) && fewX xs) := rfl
theorem fewC_cons (c : CM) (cs : List CM) : fewC (c :: cs) = ((decide (c.f1.length ≤ 20) && decide (c.f2.length ≤ 20) && fewX c.f2) && fewC cs) := rfl
theorem few_l1 (l : List CM) (i : Nat) (hi : i < l.length) (hc : l[i].f2.length ≤ 20) (r : Bool) (hr : Ev (fun k => l26_few.l0 k l ((i + 1 : Nat) : Int)) r) (hl : l.length ≤ 1000000) : ∀ d (j : Nat), j + d = l[i].f2.length → Ev (fun k => l26_few.l1 k l (i : Int) (j : Int)) (fewX (l[i].f2.drop j) && r) := by
 intro d
 induction d with
 | zero =>
  intro j hj
  rw [List.drop_of_length_le (by omega)]
  refine Ev.step (fun k => by rw [l26_few.l1, if_pos (show (0 : Int) ≤ (i : Int) by omega), if_pos (show (i : Int) < (l.length : Int) by omega), rdM_nat l i hi, if_neg (show ¬ (j : Int) < (l[i].f2.length : Int) by omega), w1 i (by omega)]) ?_
  simpa [fewX] using hr
 | succ d ih =>
  intro j hj
  have hlt : j < l[i].f2.length := by omega
  rw [drop_cons l[i].f2 j hlt, fewX_cons]
  refine Ev.step (fun k => by rw [l26_few.l1, if_pos (show (0 : Int) ≤ (i : Int) by omega), if_pos (show (i : Int) < (l.length : Int) by omega), rdM_nat l i hi, if_pos (show (j : Int) < (l[i].f2.length : Int) by omega), if_pos (show (0 : Int) ≤ (j : Int) by omega), rdX_at l[i].f2 j hlt, w1 j (by omega)]) ?_
  by_cases e : l[i].f2[j].f0.size ≤ 100
  ·refine Ev.ite_neg (by omega) ?_
   rw [decide_eq_true e, Bool.true_and]
   exact ih (j + 1) (by omega)
  ·refine Ev.ite_pos (by omega) ?_
   rw [decide_eq_false e, Bool.false_and, Bool.false_and]
   exact Ev.now _
theorem few_l0 (l : List CM) (hl : l.length ≤ 1000000) : ∀ d (i : Nat), i + d = l.length → Ev (fun k => l26_few.l0 k l (i : Int)) (fewC (l.drop i)) := by
 intro d
 induction d with
 | zero =>
  intro i hi
  refine Ev.step (f := fun _ => some true) (fun k => ?_) (by rw [List.drop_of_length_le (by omega)]; exact Ev.now _)
  rw [l26_few.l0, if_neg (by omega)]
 | succ d ih =>
  intro i hi
  have hlt : i < l.length := by omega
  have hih := ih (i + 1) (by omega)
  rw [drop_cons l i hlt, fewC_cons]
  refine Ev.step (fun k => by rw [l26_few.l0, if_pos (show (i : Int) < (l.length : Int) by omega), if_pos (show (0 : Int) ≤ (i : Int) by omega), rdM_nat l i hlt]) ?_
  have hj : ∀ b : Bool, (b = false → l[i].f2.length ≤ 20) → Ev (fun k => l26_few.j1 k l (i : Int) b) (!b && (fewX l[i].f2 && fewC (l.drop (i + 1)))) := by
   intro b hb
   cases b with
   | true => exact Ev.step (f := fun _ => some false) (fun k => by rw [l26_few.j1, if_pos rfl]) (Ev.now _)
   | false =>
    have h0 := few_l1 l i hlt (hb rfl) _ hih hl l[i].f2.length 0 (by omega)
    rw [List.drop_zero] at h0
    exact Ev.step (fun k => by rw [l26_few.j1, if_neg (by decide)]) (by simpa using h0)
  by_cases e1 : l[i].f1.length ≤ 20
  ·refine Ev.ite_neg (by omega) ?_
   by_cases e2 : l[i].f2.length ≤ 20
   ·rw [decide_eq_false (show ¬ (l[i].f2.length : Int) > 20 by omega)]
    rw [decide_eq_true e1, decide_eq_true e2]
    simpa only [Bool.not_false, Bool.true_and] using hj false (fun _ => e2)
   ·rw [decide_eq_true (show (l[i].f2.length : Int) > 20 by omega)]
    rw [decide_eq_true e1, decide_eq_false e2]
    simpa only [Bool.not_true, Bool.true_and, Bool.false_and] using hj true (fun h => by cases h)
  ·refine Ev.ite_pos (by omega) ?_
   rw [decide_eq_false e1]
   simpa only [Bool.not_true, Bool.false_and] using hj true (fun h => by cases h)
theorem few_is (l : List CM) : Ev (fun k => l26_few.f k l) (fewM l) := by
 unfold fewM
 by_cases h : l.length ≤ 70
 ·rw [decide_eq_true h, Bool.true_and]
  have := few_l0 l (by omega) l.length 0 (by omega)
  rw [List.drop_zero] at this
  exact Ev.congr (fun k => rfl) (Ev.ite_neg (by omega) this)
 ·rw [decide_eq_false h, Bool.false_and]
  exact Ev.congr (fun k => rfl) (Ev.ite_pos (by omega) (Ev.now _))
theorem few_of {l : List CM} (h : fewM l = true) : l.length ≤ 70 ∧ ∀ c ∈ l, c.f1.length ≤ 20 ∧ c.f2.length ≤ 20 ∧ ∀ x ∈ c.f2, x.f0.size ≤ 100 := by
 unfold fewM fewC fewX at h
 simp only [Bool.and_eq_true, decide_eq_true_eq, List.all_eq_true] at h
 exact ⟨h.1, fun c hc => ⟨(h.2 c hc).1.1, (h.2 c hc).1.2, (h.2 c hc).2⟩⟩
theorem okI_wf {x : Int} (h : (Lit.int .i64 x).wf = true) : okI x = true := by
 rw [wf_i64] at h
 rw [okI, Bool.and_eq_true, decide_eq_true_iff, decide_eq_true_iff]
 exact h
theorem okV_wf {x : Int} (h : (Lit.int .i64 x).wf = true) : okV x = true := by
 rw [wf_i64] at h
 rw [okV, Bool.and_eq_true, decide_eq_true_iff, decide_eq_true_iff]
 exact h

def ex1 : CM := ⟨1, [], [⟨⟨#[97]⟩, 1⟩], 0, 0⟩
def ex2 : CM := ⟨2, [1], [⟨⟨#[98]⟩, 2⟩], 0, 0⟩
def ex3 : CM := ⟨3, [1], [⟨⟨#[97]⟩, 0⟩], 0, 0⟩
def ex4 : CM := ⟨4, [2, 3], [⟨⟨#[97]⟩, 0⟩], 0, 0⟩
def exM : List CM := [ex1, ex2, ex3, ex4]
theorem uniq_eq {l s : List Int} (hs : s.Pairwise (· < ·)) (h : ∀ x, x ∈ l ↔ x ∈ s) : uniq l = s := srt_ext (uniq_srt l) hs (fun x => by rw [mem_uniq, h x])
set_option maxRecDepth 100000 in
theorem a4 : history_ancestors.f 60 exM 4 = some [1, 3, 2, 4] := by decide +kernel
set_option maxRecDepth 100000 in
theorem a3 : history_ancestors.f 60 exM 3 = some [1, 3] := by decide +kernel
set_option maxRecDepth 100000 in
theorem a2 : history_ancestors.f 60 exM 2 = some [1, 2] := by decide +kernel
set_option maxRecDepth 100000 in
theorem a1 : history_ancestors.f 60 exM 1 = some [1] := by decide +kernel
set_option maxRecDepth 100000 in
theorem a0 : history_ancestors.f 60 exM 0 = some [] := by decide +kernel
set_option maxRecDepth 100000 in
theorem a9 : history_ancestors.f 60 exM 9 = some [] := by decide +kernel
theorem A4 : history_Ancestors.f 60 exM 4 = some [1, 2, 3, 4] := by
 rw [history_Ancestors.f, a4, Option.map_some, uniq_eq (s := [1, 2, 3, 4]) (by decide) (fun x => by simp only [List.mem_cons, List.not_mem_nil, or_false]; omega)]
theorem A2 : history_Ancestors.f 60 exM 2 = some [1, 2] := by
 rw [history_Ancestors.f, a2, Option.map_some, uniq_eq (s := [1, 2]) (by decide) (fun x => by simp)]
theorem al_A4 : Ev (fun k => history_Ancestors.f k exM 4) [1, 2, 3, 4] := Ev.of (fun k => history_Ancestors.mono _ _ k) (k := 60) A4
theorem B24 : history_Between.f 60 exM 2 4 = some [3, 4] := by
 rw [history_Between.f, a2, Option.bind_some, A4, Option.map_some]; rfl
theorem al_B24 : Ev (fun k => history_Between.f k exM 2 4) [3, 4] := Ev.of (fun k => history_Between.mono _ _ _ k) (k := 60) B24
theorem al_B92 : Ev (fun k => history_Between.f k exM 9 2) [1, 2] := Ev.of (fun k => history_Between.mono _ _ _ k) (k := 60) (by rw [history_Between.f, a9, Option.bind_some, A2, Option.map_some]; rfl)
set_option maxRecDepth 100000 in
theorem al_bases : Ev (fun k => history_Bases.f k exM 2 3) [1] := Ev.of (fun k => history_Bases.mono _ _ _ k) (k := 60) (by
 rw [history_Bases.f, a3, Option.bind_some, A2, Option.bind_some]
 decide +kernel)
theorem al_touch : Ev (fun k => history_Touched.f k exM 2 4) [⟨#[97]⟩] := Ev.of (fun k => history_Touched.mono _ _ _ k) (k := 60) (by
 rw [history_Touched.f, B24, Option.bind_some, if_pos (by decide +kernel), show ([3, 4].flatMap (pathsH exM)) = [⟨#[97]⟩, ⟨#[97]⟩] from rfl]
 refine congrArg some (inc_ext (uniqS_inc _) (List.pairwise_singleton _ _) (fun s => ?_))
 rw [mem_uniqS]; simp)
set_option maxRecDepth 100000 in
theorem al_is00 : Ev (fun k => history_Is.f k exM 0 0) true := Ev.of (fun k => history_Is.mono _ _ _ k) (k := 60) (by decide +kernel)
set_option maxRecDepth 100000 in
theorem al_is04 : Ev (fun k => history_Is.f k exM 0 4) true := Ev.of (fun k => history_Is.mono _ _ _ k) (k := 60) (by decide +kernel)
set_option maxRecDepth 100000 in
theorem al_is05 : Ev (fun k => history_Is.f k exM 0 5) false := Ev.of (fun k => history_Is.mono _ _ _ k) (k := 60) (by decide +kernel)
set_option maxRecDepth 100000 in
theorem al_is10 : Ev (fun k => history_Is.f k exM 1 0) false := Ev.of (fun k => history_Is.mono _ _ _ k) (k := 60) (by decide +kernel)
set_option maxRecDepth 100000 in
theorem al_is14 : Ev (fun k => history_Is.f k exM 1 4) true := Ev.of (fun k => history_Is.mono _ _ _ k) (k := 60) (by decide +kernel)
theorem okX_list {l : List CM} (h : (l.all fun c => c.f2.all fun x => decide (x.f0.size ≤ 1000) && okI x.f1) = true) : ∀ c ∈ l, okX c := fun c hc x hx => by
 have := List.all_eq_true.1 (List.all_eq_true.1 h c hc) x hx
 rw [Bool.and_eq_true, decide_eq_true_iff] at this
 exact ⟨by omega, this.2⟩
def exN : List CM := [ex1, { ex2 with f1 := [2] }, ex3, ex4]
def exT : List CM := [ex1, { ex2 with f1 := [1, 1] }, ex3, ex4]
set_option maxRecDepth 100000 in
theorem al_right : Ev (fun k => history_Right.f k exM) 0 := by
 have h := pRight_is exM (okX_list (by decide +kernel)) (List.all_eq_true.1 (by decide +kernel))
 rwa [show rightHM exM = 0 by decide +kernel] at h
set_option maxRecDepth 100000 in
theorem al_rightN : Ev (fun k => history_Right.f k exN) 8 := by
 have h := pRight_is exN (okX_list (by decide +kernel)) (List.all_eq_true.1 (by decide +kernel))
 rwa [show rightHM exN = 8 by decide +kernel] at h
set_option maxRecDepth 100000 in
theorem al_rightT : Ev (fun k => history_Right.f k exT) 7 := by
 have h := pRight_is exT (okX_list (by decide +kernel)) (List.all_eq_true.1 (by decide +kernel))
 rwa [show rightHM exT = 7 by decide +kernel] at h
theorem SameText_self (l : List ByteArray) (hl : l.length ≤ 1000000) : Ev (fun k => r14_SameText.f k l l) true := by
 have key : ∀ d (i : Nat), i + d = l.length → Ev (fun k => r14_SameText.l0 k l l (i : Int)) true := by
  intro d
  induction d with
  | zero =>
   intro i hi
   refine Ev.step (f := fun _ => some true) (fun k => ?_) (Ev.now _)
   rw [r14_SameText.l0, if_neg (by omega)]
  | succ d ih =>
   intro i hi
   refine Ev.step (fun k => ?_) (ih (i + 1) (by omega))
   rw [r14_SameText.l0, if_pos (by omega), if_pos (by omega), if_pos (by omega), if_pos (by rfl), w1 i (by omega)]
 exact Ev.congr (fun k => rfl) (Ev.ite_pos rfl (key l.length 0 (by omega)))
theorem dec1 (i : Nat) (h : i < 1000000) : wrap64 (((i + 1 : Nat) : Int) - 1) = (i : Int) := by rw [w64 (by omega) (by omega)]; omega
theorem l1_step (line : List CM) (files : FS) (i : Nat) (h : i < line.length) (hi : i < 1000000) (hf : okF files) (hx : okX line[i]) (e : (applyOut files line[i].f2).2 = 0) {r : FS × Int} (hr : Ev (fun k => history_Tree.l1 k line (applyOut files line[i].f2).1 (wrap64 ((i : Int) - 1))) r) : Ev (fun k => history_Tree.l1 k line files (i : Int)) r := by
 refine Ev.step (fun k => by rw [history_Tree.l1, if_pos (show (i : Int) ≥ 0 by omega), if_pos (show (0 : Int) ≤ (i : Int) by omega), if_pos (show (i : Int) < (line.length : Int) by omega), rdM_nat line i h]) (Ev.bind (Apply_is files line[i].f2 hf hx) (Ev.ite_pos e hr))
theorem l1_end (line : List CM) (files : FS) : Ev (fun k => history_Tree.l1 k line files (wrap64 (((0 : Nat) : Int) - 1))) (files, 0) := by
 refine Ev.step (f := fun _ => some (files, (0 : Int))) (fun k => ?_) (Ev.now _)
 rw [show wrap64 (((0 : Nat) : Int) - 1) = -1 by unfold wrap64; decide, history_Tree.l1, if_neg (by decide)]
theorem j2_is (line : List CM) (hl : line.length ≤ 1000000) {r : FS × Int} (hr : Ev (fun k => history_Tree.l1 k line [] ((line.length : Int) - 1)) r) : Ev (fun k => history_Tree.j2 k line) r := by
 refine Ev.step (fun k => by rw [history_Tree.j2, w64 (by omega) (by omega)]) hr
theorem l0_more (l line : List CM) (n : Int) (c d : CM) (p : Int) (ps : List Int) (hn : 0 ≤ n) (hn2 : n ≤ 1000000) (hl : l.length ≤ 1000000) (hll : line.length ≤ 1000000) (hc : c.f1 = p :: ps) (hd : getH l p = some d) {r : FS × Int} (hr : Ev (fun k => history_Tree.l0 k l true (line ++ [c]) (n - 1) d.f0 d.f1 d.f2 d.f3 d.f4) r) : Ev (fun k => history_Tree.l0 k l true line n c.f0 c.f1 c.f2 c.f3 c.f4) r := by
 have hG := hGet_is l p hl
 rw [getR_some hd] at hG
 rw [hc]
 refine Ev.step (fun k => by rw [history_Tree.l0, if_pos rfl, decide_eq_true (show n ≥ 0 from hn)]) ?_
 refine Ev.step (fun k => by rw [history_Tree.j1, if_pos rfl, if_pos (by omega), Option.bind_some, if_neg (by rw [List.length_cons]; omega), if_pos (by rw [List.length_cons]; omega), show rd (p :: ps) 0 = p from rfl, w64 (by omega) (by omega)]) (Ev.bind hG ?_)
 have e : (⟨c.f0, p :: ps, c.f2, c.f3, c.f4⟩ : CM) = c := by rw [← hc]
 rw [e]
 exact hr
theorem l0_root (l line : List CM) (n : Int) (c : CM) (hn : 0 ≤ n) (hll : line.length ≤ 1000000) (hc : c.f1 = []) {r : FS × Int} (hr : Ev (fun k => history_Tree.j2 k (line ++ [c])) r) : Ev (fun k => history_Tree.l0 k l true line n c.f0 c.f1 c.f2 c.f3 c.f4) r := by
 rw [hc]
 refine Ev.step (fun k => by rw [history_Tree.l0, if_pos rfl, decide_eq_true (show n ≥ 0 from hn)]) ?_
 refine Ev.step (fun k => by rw [history_Tree.j1, if_pos rfl, if_pos (by omega), Option.bind_some, if_pos (by rfl)]) ?_
 have e : (⟨c.f0, [], c.f2, c.f3, c.f4⟩ : CM) = c := by rw [← hc]
 rw [e]
 exact hr
set_option maxRecDepth 100000 in
theorem al_tree : Ev (fun k => history_Tree.f k exM 4) ([⟨⟨#[98]⟩, 2⟩], 0) := by
 have h4 := hGet_is exM 4 (by decide)
 rw [getR_some (show getH exM 4 = some ex4 from rfl)] at h4
 refine Ev.congr (fun k => rfl) (Ev.ite_neg (by decide) (Ev.bind h4 (Ev.ite_pos rfl ?_)))
 refine l0_more exM [] 4 ex4 ex2 2 [3] (by decide) (by decide) (by decide) (by decide) rfl rfl ?_
 refine l0_more exM [ex4] 3 ex2 ex1 1 [] (by decide) (by decide) (by decide) (by decide) rfl rfl ?_
 refine l0_root exM [ex4, ex2] 2 ex1 (by decide) (by decide) rfl (j2_is _ (by decide) ?_)
 have hok : ∀ c ∈ [ex4, ex2, ex1], okX c := okX_list (by decide +kernel)
 have e1 : applyOut [] ex1.f2 = ([⟨⟨#[97]⟩, 1⟩], 0) := by decide +kernel
 have e2 : applyOut [⟨⟨#[97]⟩, 1⟩] ex2.f2 = ([⟨⟨#[97]⟩, 1⟩, ⟨⟨#[98]⟩, 2⟩], 0) := by decide +kernel
 have e4 : applyOut [⟨⟨#[97]⟩, 1⟩, ⟨⟨#[98]⟩, 2⟩] ex4.f2 = ([⟨⟨#[98]⟩, 2⟩], 0) := by decide +kernel
 have f1 : okF [] := fun x hx => by cases hx
 have f2 : okF [⟨⟨#[97]⟩, 1⟩] := fun x hx => by rw [List.mem_singleton.1 hx]; decide
 have f3 : okF [⟨⟨#[97]⟩, 1⟩, ⟨⟨#[98]⟩, 2⟩] := fun x hx => by
  rcases List.mem_cons.1 hx with e | hx
  ·rw [e]; decide
  ·rw [List.mem_singleton.1 hx]; decide
 refine l1_step [ex4, ex2, ex1] [] 2 (by decide) (by decide) f1 (hok _ (by simp)) (by show (applyOut [] ex1.f2).2 = 0; rw [e1]) ?_
 rw [show ([ex4, ex2, ex1] : List CM)[2] = ex1 from rfl, e1, show wrap64 (((2 : Nat) : Int) - 1) = ((1 : Nat) : Int) by unfold wrap64; decide]
 refine l1_step [ex4, ex2, ex1] [⟨⟨#[97]⟩, 1⟩] 1 (by decide) (by decide) f2 (hok _ (by simp)) (by show (applyOut _ ex2.f2).2 = 0; rw [e2]) ?_
 rw [show ([ex4, ex2, ex1] : List CM)[1] = ex2 from rfl, e2, show wrap64 (((1 : Nat) : Int) - 1) = ((0 : Nat) : Int) by unfold wrap64; decide]
 refine l1_step [ex4, ex2, ex1] [⟨⟨#[97]⟩, 1⟩, ⟨⟨#[98]⟩, 2⟩] 0 (by decide) (by decide) f3 (hok _ (by simp)) (by show (applyOut _ ex4.f2).2 = 0; rw [e4]) ?_
 rw [show ([ex4, ex2, ex1] : List CM)[0] = ex4 from rfl, e4]
 exact l1_end _ _
theorem alive26 : Ev (fun k => l26_alive.f k) true := by
 have sm : ∀ l : List Int, l.length ≤ 1000 → Ev (fun k => r05_Same.f k l l) true := fun l hl => Same_self l (by omega)
 refine Ev.congr (fun k => rfl) (Ev.bind_eq (a := exM) rfl (Ev.bind al_tree (Ev.bind al_right (Ev.ite_pos rfl (Ev.ite_pos rfl ?_)))))
 refine Ev.bind (Files_is _ _ (by decide)) ?_
 rw [decide_eq_true rfl]
 refine Ev.ite_pos rfl (Ev.bind al_A4 (Ev.bind (sm _ (by decide)) (Ev.ite_pos rfl ?_)))
 refine Ev.bind al_B24 (Ev.bind (sm _ (by decide)) (Ev.ite_pos rfl ?_))
 refine Ev.bind al_bases (Ev.bind (sm _ (by decide)) (Ev.ite_pos rfl ?_))
 refine Ev.bind al_touch (Ev.bind (SameText_self [⟨#[97]⟩] (by decide)) (Ev.ite_pos rfl ?_))
 refine Ev.bind al_is00 (Ev.ite_pos rfl (Ev.bind al_is04 (Ev.ite_pos rfl (Ev.bind al_is05 (Ev.ite_neg (by decide) (Ev.bind al_is10 (Ev.ite_neg (by decide) (Ev.bind al_is14 (Ev.ite_pos rfl ?_)))))))))
 refine Ev.bind al_B92 (Ev.bind (sm _ (by decide)) (Ev.ite_pos rfl (Ev.ite_pos (by decide) ?_)))
 refine Ev.some_bind (Ev.bind al_rightN (Ev.ite_pos rfl (Ev.bind al_rightT ?_)))
 exact Ev.now _

def rightL (l : List CM) : Bool := decide (l.length ≤ 12) && fewM l && decide (rightHM l = 0)
theorem right_is (l : List CM) : Ev (fun k => l26_right.f k l) (rightL l) := by
 unfold rightL
 by_cases h : l.length ≤ 12
 ·rw [decide_eq_true h, Bool.true_and]
  refine Ev.congr (fun k => rfl) (Ev.ite_pos (by omega) (Ev.bind (few_is l) ?_))
  cases hf : fewM l with
  | false => exact Ev.ite_neg (by decide) (Ev.now _)
  | true =>
   rw [Bool.true_and]
   exact Ev.ite_pos rfl (Ev.bind (rRightH_is l (by omega) (fun c hc => by have := ((few_of hf).2 c hc).1; omega)) (Ev.now _))
 ·rw [decide_eq_false h, Bool.false_and, Bool.false_and]
  exact Ev.congr (fun k => rfl) (Ev.ite_neg (by omega) (Ev.now _))
structure RightL (l : List CM) : Prop where
 len : l.length ≤ 12
 few : ∀ c ∈ l, c.f1.length ≤ 20 ∧ c.f2.length ≤ 20 ∧ ∀ x ∈ c.f2, x.f0.size ≤ 100
 inc : IncI l
 ck : ∀ (i : Nat) (h : i < l.length), checkM (l.take i) l[i] = 0
theorem errM_zero {l : List CM} : ∀ {d i : Nat}, errM l d i = 0 → ∀ j (hj : j < l.length), i ≤ j → j < i + d → checkM (l.take j) l[j] = 0
 | 0, i, _, j, hj, h1, h2 => by omega
 | d + 1, i, h, j, hj, h1, h2 => by
  have hi : i < l.length := by omega
  rw [errM, List.getElem?_eq_getElem hi] at h
  simp only [] at h
  by_cases e : checkM (l.take i) l[i] = 0
  ·rw [if_pos e] at h
   by_cases e2 : j = i
   ·subst e2; exact e
   ·exact errM_zero h j hj (by omega) (by omega)
  ·rw [if_neg e] at h; exact absurd h e
theorem incI_of {l : List CM} (h : ∀ (i : Nat) (h : i < l.length), checkM (l.take i) l[i] = 0) : ∀ n, n ≤ l.length → IncI (l.take n) := by
 intro n
 induction n with
 | zero => intro _; exact ⟨by simp, fun c hc => by simp at hc⟩
 | succ n ih =>
  intro hn
  have h1 := ih (by omega)
  have h2 := h n (by omega)
  rw [← take_snoc l n (by omega)]
  rw [checkM_one h1] at h2
  refine h1.push ?_
  by_cases e : oneG l[n] (lastId (l.take n)) (tmM (l.take n)) = 0
  ·exact (numsG_false (oneG_zero e).1).1
  ·rw [if_neg e] at h2; exact absurd h2 e
theorem right_of {l : List CM} (h : rightL l = true) : RightL l := by
 unfold rightL at h
 rw [Bool.and_eq_true, Bool.and_eq_true, decide_eq_true_iff, decide_eq_true_iff] at h
 obtain ⟨⟨h1, h2⟩, h3⟩ := h
 unfold rightHM at h3
 rw [if_neg (by omega)] at h3
 have hck : ∀ (i : Nat) (h : i < l.length), checkM (l.take i) l[i] = 0 := fun i hi => errM_zero h3 i hi (Nat.zero_le _) (by omega)
 refine ⟨h1, (few_of h2).2, ?_, hck⟩
 have := incI_of hck l.length (Nat.le_refl _)
 rwa [List.take_length] at this
theorem RightL.parts {l : List CM} (h : RightL l) (i : Nat) (hi : i < l.length) : goneR (l.take i) l[i].f1 = false ∧ (afterM (filesM' (l.take i)) l[i]).2 = 0 := by
 have h1 := h.ck i hi
 have hinc := incI_of h.ck i (by omega)
 rw [checkM_one hinc] at h1
 by_cases e : oneG l[i] (lastId (l.take i)) (tmM (l.take i)) = 0
 ·rw [if_pos e] at h1
  refine ⟨?_, h1⟩
  rw [← goneG_is hinc]
  exact (oneG_zero e).2.2.2.2.1
 ·rw [if_neg e] at h1; exact absurd h1 e
theorem idx_get (x : Int) : ∀ (l : List CM) (s : Nat), (idxH x l s = none ∧ getH l x = none) ∨ ∃ i, ∃ h : i < l.length, idxH x l s = some (s + i) ∧ getH l x = some l[i]
 | [], s => .inl ⟨rfl, rfl⟩
 | c :: cs, s => by
  rw [idxH]
  unfold getH
  rw [List.find?_cons]
  by_cases e : c.f0 = x
  ·rw [if_pos e]
   exact .inr ⟨0, by simp, by simp, by simp [e]⟩
  ·rw [if_neg e]
   simp only [decide_eq_false e]
   rcases idx_get x cs (s + 1) with ⟨h1, h2⟩ | ⟨i, h, h1, h2⟩
   ·exact .inl ⟨h1, h2⟩
   ·exact .inr ⟨i + 1, by simp; omega, by rw [h1, show s + 1 + i = s + (i + 1) by omega], by rw [show List.find? _ cs = _ from h2]; simp⟩
theorem idxH_pre (x : Int) : ∀ (l m : List CM) (s i : Nat), idxH x l s = some i → idxH x (l ++ m) s = some i
 | [], _, _, _, h => by cases h
 | c :: cs, m, s, i, h => by
  rw [idxH] at h
  show idxH x (c :: (cs ++ m)) s = _
  rw [idxH]
  by_cases e : c.f0 = x
  ·rw [if_pos e] at h ⊢; exact h
  ·rw [if_neg e] at h ⊢; exact idxH_pre x cs m (s + 1) i h
theorem getH_pre (x : Int) (l m : List CM) (c : CM) (h : getH l x = some c) : getH (l ++ m) x = some c := by
 unfold getH at h ⊢
 rw [List.find?_append, h]; rfl
def filesAt (l : List CM) (i : Nat) (h : i < l.length) : FS := (afterM (filesM' (l.take i)) l[i]).1
theorem fparM_at {l : List CM} {i : Nat} (hinc : IncI (l.take i)) {p : Int} {ps : List Int} (hg : goneR (l.take i) (p :: ps) = false) (hi : i ≤ l.length) : ∃ j, ∃ hj : j < l.length, j < i ∧ getH (l.take i) p = some l[j] ∧ idxH p l 0 = some j ∧ fparM (filesM' (l.take i)) (p :: ps) = filesAt l j hj := by
 rw [goneR, Bool.or_eq_false_iff] at hg
 rcases idx_get p (l.take i) 0 with ⟨h1, h2⟩ | ⟨j, h, h1, h2⟩
 ·rw [h2] at hg; cases hg.1
 ·rw [Nat.zero_add] at h1
  rw [List.length_take] at h
  have hj : j < l.length := by omega
  have hji : j < i := by omega
  have hlj : (l.take i)[j]'(by rw [List.length_take]; omega) = l[j] := List.getElem_take
  have hne : p ≠ 0 := by
   intro e
   have := hinc.2 _ (getH_mem h2)
   rw [getH_id h2] at this; omega
  refine ⟨j, hj, hji, by rw [h2, hlj], ?_, ?_⟩
  ·have := idxH_pre p (l.take i) (l.drop i) 0 j h1
   rwa [List.take_append_drop] at this
  ·rw [fparM, if_neg hne, fget_files, h1]
   simp only [Option.bind_some]
   rw [List.getElem?_eq_getElem (by rw [List.length_take]; omega), hlj, List.take_take, Nat.min_eq_left (by omega)]
   rfl
theorem okF_at {l : List CM} (hx : ∀ c ∈ l, okX c) (i : Nat) (h : i < l.length) : okF (filesAt l i h) :=
 okF_apply (okF_par (okF_files _ (fun c hc => hx c (List.mem_of_mem_take hc))) _) (fun x hx' => (hx _ (List.getElem_mem h) x hx').1)
theorem line_is {l : List CM} (h : RightL l) (hx : ∀ c ∈ l, okX c) : ∀ (i : Nat) (hi : i < l.length) (line : List CM) (n : Int) (r : FS × Int), (i : Int) ≤ n → n ≤ 1000 → line.length + i ≤ 1000 → (∀ full : List CM, full.take line.length = line → Ev (fun k => history_Tree.l1 k full (filesAt l i hi) (wrap64 ((line.length : Int) - 1))) r) →
  Ev (fun k => history_Tree.l0 k l true line n l[i].f0 l[i].f1 l[i].f2 l[i].f3 l[i].f4) r := by
 intro i
 induction i using Nat.strongRecOn with
 | _ i ih =>
  intro hi line n r hn hn2 hll hf
  have hp := h.parts i hi
  have hlen := h.len
  have hok := hx _ (List.getElem_mem hi)
  have e2 : (applyOut (fparM (filesM' (l.take i)) l[i].f1) l[i].f2).2 = 0 := hp.2
  have hF : filesAt l i hi = (applyOut (fparM (filesM' (l.take i)) l[i].f1) l[i].f2).1 := rfl
  rw [hF] at hf
  generalize hc : l[i] = c at hp hok e2 hf ⊢
  have hat : ∀ full : List CM, full.take (line.length + 1) = line ++ [c] → ∃ hlt : line.length < full.length, full[line.length] = c ∧ full.take line.length = line := by
   intro full hfull
   have hlen2 := congrArg List.length hfull
   rw [List.length_take, List.length_append, List.length_singleton] at hlen2
   have hlt : line.length < full.length := by omega
   refine ⟨hlt, ?_, ?_⟩
   ·have this : (full.take (line.length + 1))[line.length]? = (line ++ [c])[line.length]? := by rw [hfull]
    rw [List.getElem?_take, if_pos (by omega), List.getElem?_eq_getElem hlt, List.getElem?_append_right (Nat.le_refl _)] at this
    simpa using this
   ·have := congrArg (List.take line.length) hfull
    rw [List.take_take, Nat.min_eq_left (by omega), List.take_append_of_le_length (Nat.le_refl _), List.take_length] at this
    exact this
  cases hps : c.f1 with
  | nil =>
   rw [hps] at e2 hf
   refine (fun z => by rw [← hps]; exact z) (l0_root l line n c (by omega) (by omega) hps (j2_is _ (by rw [List.length_append, List.length_singleton]; omega) ?_))
   obtain ⟨hlt, h1, h2⟩ := hat (line ++ [c]) (by rw [List.take_of_length_le (by simp)])
   rw [List.length_append, List.length_singleton, show (((line.length + 1 : Nat) : Int) - 1) = (line.length : Int) by omega]
   refine l1_step (line ++ [c]) [] line.length hlt (by omega) (fun x hx => by cases hx) (by rw [h1]; exact hok) (by rw [h1]; exact e2) ?_
   rw [h1]
   exact hf _ h2
  | cons p ps =>
   rw [hps] at e2 hf hp
   obtain ⟨j, hj, hji, hg, _, hpar⟩ := fparM_at (incI_of h.ck i (by omega)) hp.1 (by omega)
   rw [hpar] at e2 hf
   have hg2 : getH l p = some l[j] := by
    have := getH_pre p (l.take i) (l.drop i) l[j] hg
    rwa [List.take_append_drop] at this
   refine (fun z => by rw [← hps]; exact z) (l0_more l line n c l[j] p ps (by omega) (by omega) (by omega) (by omega) hps hg2 (ih j hji hj (line ++ [c]) (n - 1) r (by omega) (by omega) (by rw [List.length_append, List.length_singleton]; omega) (fun full hfull => ?_)))
   rw [List.length_append, List.length_singleton] at hfull ⊢
   obtain ⟨hlt, h1, h2⟩ := hat full hfull
   rw [show wrap64 (((line.length + 1 : Nat) : Int) - 1) = (line.length : Int) from dec1 _ (by omega)]
   refine l1_step full (filesAt l j hj) line.length hlt (by omega) (okF_at hx j hj) (by rw [h1]; exact hok) (by rw [h1]; exact e2) ?_
   rw [h1]
   exact hf full h2
theorem hTree_is {l : List CM} (h : RightL l) (hx : ∀ c ∈ l, okX c) (x : Int) : Ev (fun k => history_Tree.f k l x) (rTreeM l x) := by
 have hlen := h.len
 unfold rTreeM
 by_cases h0 : x = 0
 ·rw [if_pos h0]
  exact Ev.congr (fun k => rfl) (Ev.ite_pos h0 (Ev.now _))
 ·rw [if_neg h0]
  refine Ev.congr (fun k => rfl) (Ev.ite_neg h0 (Ev.bind (hGet_is l x (by omega)) ?_))
  rw [fget_files]
  rcases idx_get x l 0 with ⟨h1, h2⟩ | ⟨i, hi, h1, h2⟩
  ·rw [h1, getR_none h2]
   exact Ev.ite_neg (by simp) (Ev.now _)
  ·rw [Nat.zero_add] at h1
   rw [h1, getR_some h2]
   simp only [Option.bind_some, List.getElem?_eq_getElem hi, Option.map_some]
   refine Ev.ite_pos (by trivial) ?_
   refine line_is h hx i hi [] (l.length : Int) _ (by omega) (by omega) (by simp; omega) (fun full _ => ?_)
   exact l1_end full _
theorem applyOut_len (f : FS) (cs : List SC) : (applyOut f cs).1.length ≤ 32 := by
 unfold applyOut
 by_cases e : rightM f = 0
 ·rw [if_pos e]
  by_cases e2 : cs.length > 16
  ·rw [if_pos e2]; simp
  ·rw [if_neg e2]
   cases hr : applyR f cs with
   | none => simp
   | some r =>
    by_cases e3 : rightM r = 0
    ·simp only [if_pos e3]
     unfold rightM at e3
     by_cases h : r.length > 32
     ·rw [if_pos h] at e3; cases e3
     ·omega
    ·simp only [if_neg e3]; simp
 ·rw [if_neg e]; simp
theorem rTreeM_len (l : List CM) (x : Int) : (rTreeM l x).1.length ≤ 1000000 := by
 unfold rTreeM
 by_cases h0 : x = 0
 ·rw [if_pos h0]; simp
 ·rw [if_neg h0, fget_files]
  rcases idx_get x l 0 with ⟨h1, _⟩ | ⟨i, hi, h1, _⟩
  ·rw [h1]; simp
  ·rw [Nat.zero_add] at h1
   rw [h1]
   simp only [Option.bind_some, List.getElem?_eq_getElem hi, Option.map_some]
   have : (afterM (filesM' (l.take i)) l[i]).1.length ≤ 32 := applyOut_len _ _
   omega

inductive Anc (l : List CM) (a : Int) : Int → Prop
 | self : (getH l a).isSome = true → Anc l a a
 | up {y p : Int} {c : CM} : Anc l a y → getH l y = some c → p ∈ c.f1 → (getH l p).isSome = true → Anc l a p
theorem ancL_sound {l : List CM} {S : Int → Prop} (hS : ∀ y c p, S y → getH l y = some c → p ∈ c.f1 → (getH l p).isSome = true → S p) : ∀ (k : Nat) (td m r : List Int), ancL l k td m = some r → (∀ x ∈ m, S x) → (∀ t ∈ td, (getH l t).isSome = true → S t) → ∀ x ∈ r, S x
 | 0, _, _, _, h, _, _ => by cases h
 | k + 1, [], m, r, h, hm, _ => by obtain rfl := Option.some.inj h; exact hm
 | k + 1, x :: td, m, r, h, hm, ht => by
  rw [ancL] at h
  cases hg : getH l x with
  | none =>
   simp only [hg] at h
   exact ancL_sound hS k td m r h hm (fun t h1 => ht t (List.mem_cons_of_mem _ h1))
  | some c =>
   simp only [hg] at h
   have hx : S x := ht x List.mem_cons_self (by rw [hg]; rfl)
   by_cases e : x ∈ m
   ·rw [if_pos e] at h
    exact ancL_sound hS k td m r h hm (fun t h1 => ht t (List.mem_cons_of_mem _ h1))
   ·rw [if_neg e] at h
    by_cases e2 : td.length + c.f1.length ≤ 1000000
    ·rw [if_pos e2] at h
     refine ancL_sound hS k _ _ r h (fun y hy => ?_) (fun t h1 h2 => ?_)
     ·rcases List.mem_cons.1 hy with rfl | hy
      ·exact hx
      ·exact hm y hy
     ·rcases List.mem_append.1 h1 with h1 | h1
      ·exact ht t (List.mem_cons_of_mem _ h1) h2
      ·exact hS x c t hx hg h1 h2
    ·rw [if_neg e2] at h; cases h
theorem ancL_full {l : List CM} : ∀ (k : Nat) (td m r : List Int), ancL l k td m = some r → (∀ y c p, y ∈ m → getH l y = some c → p ∈ c.f1 → (getH l p).isSome = true → p ∈ m ∨ p ∈ td) →
  (∀ x ∈ m, x ∈ r) ∧ (∀ t ∈ td, (getH l t).isSome = true → t ∈ r) ∧ (∀ y c p, y ∈ r → getH l y = some c → p ∈ c.f1 → (getH l p).isSome = true → p ∈ r)
 | 0, _, _, _, h, _ => by cases h
 | k + 1, [], m, r, h, hI => by
  obtain rfl := Option.some.inj h
  exact ⟨fun _ h => h, (fun t h => nomatch h), fun y c p h1 h2 h3 h4 => (hI y c p h1 h2 h3 h4).resolve_right (fun h => by cases h)⟩
 | k + 1, x :: td, m, r, h, hI => by
  rw [ancL] at h
  cases hg : getH l x with
  | none =>
   simp only [hg] at h
   obtain ⟨h1, h2, h3⟩ := ancL_full k td m r h (fun y c p a b d e => by
    rcases hI y c p a b d e with h | h
    ·exact .inl h
    ·rcases List.mem_cons.1 h with rfl | h
     ·rw [hg] at e; cases e
     ·exact .inr h)
   refine ⟨h1, fun t ht hs => ?_, h3⟩
   rcases List.mem_cons.1 ht with rfl | ht
   ·rw [hg] at hs; cases hs
   ·exact h2 t ht hs
  | some c =>
   simp only [hg] at h
   by_cases e : x ∈ m
   ·rw [if_pos e] at h
    obtain ⟨h1, h2, h3⟩ := ancL_full k td m r h (fun y c p a b d f => by
     rcases hI y c p a b d f with h | h
     ·exact .inl h
     ·rcases List.mem_cons.1 h with rfl | h
      ·exact .inl e
      ·exact .inr h)
    refine ⟨h1, fun t ht hs => ?_, h3⟩
    rcases List.mem_cons.1 ht with rfl | ht
    ·exact h1 _ e
    ·exact h2 t ht hs
   ·rw [if_neg e] at h
    by_cases e2 : td.length + c.f1.length ≤ 1000000
    ·rw [if_pos e2] at h
     obtain ⟨h1, h2, h3⟩ := ancL_full k (td ++ c.f1) (x :: m) r h (fun y d p a b f g => by
      rcases List.mem_cons.1 a with rfl | a
      ·rw [hg] at b
       obtain rfl := Option.some.inj b
       exact .inr (List.mem_append_right _ f)
      ·rcases hI y d p a b f g with h | h
       ·exact .inl (List.mem_cons_of_mem _ h)
       ·rcases List.mem_cons.1 h with rfl | h
        ·exact .inl List.mem_cons_self
        ·exact .inr (List.mem_append_left _ h))
     refine ⟨fun y hy => h1 y (List.mem_cons_of_mem _ hy), fun t ht hs => ?_, h3⟩
     rcases List.mem_cons.1 ht with rfl | ht
     ·exact h1 _ List.mem_cons_self
     ·exact h2 t (List.mem_append_left _ ht) hs
    ·rw [if_neg e2] at h; cases h
theorem ancL_is {l : List CM} {k : Nat} {a : Int} {r : List Int} (h : ancL l k [a] [] = some r) (x : Int) : x ∈ r ↔ Anc l a x := by
 obtain ⟨_, h2, h3⟩ := ancL_full k [a] [] r h (fun y c p hy => by cases hy)
 constructor
 ·intro hx
  exact ancL_sound (S := Anc l a) (fun y c p h1 h2 h3 h4 => Anc.up h1 h2 h3 h4) k [a] [] r h (fun x hx => by cases hx) (fun t ht hs => by rw [List.mem_singleton.1 ht] at hs ⊢; exact Anc.self hs) x hx
 ·intro hx
  induction hx with
  | self hs => exact h2 a (List.mem_singleton.2 rfl) hs
  | up _ hg hp hs ih => exact h3 _ _ _ ih hg hp hs
def wtH (l : List CM) (m : List Int) : Nat := (l.map fun c => if c.f0 ∈ m then 0 else c.f1.length + 1).sum
theorem wtH_cons (x : Int) (m : List Int) : ∀ (l : List CM), wtH l (x :: m) ≤ wtH l m
 | [] => Nat.le_refl _
 | c :: cs => by
  have ih := wtH_cons x m cs
  unfold wtH at ih ⊢
  rw [List.map_cons, List.sum_cons, List.map_cons, List.sum_cons]
  by_cases e : c.f0 ∈ m
  ·rw [if_pos e, if_pos (List.mem_cons_of_mem _ e)]; omega
  ·rw [if_neg e]
   by_cases e2 : c.f0 ∈ x :: m
   ·rw [if_pos e2]; omega
   ·rw [if_neg e2]; omega
theorem wtH_drop (x : Int) (m : List Int) (hx : x ∉ m) : ∀ (l : List CM) (c : CM), c ∈ l → c.f0 = x → wtH l (x :: m) + (c.f1.length + 1) ≤ wtH l m
 | [], _, h, _ => by cases h
 | d :: ds, c, h, hc => by
  have h1 := wtH_cons x m ds
  have h2 : c ∈ ds → wtH ds (x :: m) + (c.f1.length + 1) ≤ wtH ds m := fun h => wtH_drop x m hx ds c h hc
  unfold wtH at h1 h2 ⊢
  rw [List.map_cons, List.sum_cons, List.map_cons, List.sum_cons]
  rcases List.mem_cons.1 h with rfl | h
  ·rw [if_pos (by rw [hc]; exact List.mem_cons_self), if_neg (by rw [hc]; exact hx)]; omega
  ·have := h2 h
   by_cases e : d.f0 ∈ m
   ·rw [if_pos e, if_pos (List.mem_cons_of_mem _ e)]; omega
   ·rw [if_neg e]
    by_cases e2 : d.f0 ∈ x :: m
    ·rw [if_pos e2]; omega
    ·rw [if_neg e2]; omega
theorem ancL_ends (l : List CM) : ∀ (n : Nat) (td m : List Int), td.length + wtH l m ≤ n → n ≤ 1000000 → ∃ r, ∃ k, ancL l k td m = some r ∧ r.length ≤ m.length + n := by
 intro n
 induction n with
 | zero =>
  intro td m h _
  obtain rfl : td = [] := List.eq_nil_of_length_eq_zero (by omega)
  exact ⟨m, 1, rfl, by omega⟩
 | succ n ih =>
  intro td m h hn
  cases td with
  | nil => exact ⟨m, 1, rfl, by omega⟩
  | cons x td =>
   rw [List.length_cons] at h
   cases hg : getH l x with
   | none =>
    obtain ⟨r, k, h1, h2⟩ := ih td m (by omega) (by omega)
    exact ⟨r, k + 1, by rw [ancL]; simp only [hg]; exact h1, by omega⟩
   | some c =>
    by_cases e : x ∈ m
    ·obtain ⟨r, k, h1, h2⟩ := ih td m (by omega) (by omega)
     exact ⟨r, k + 1, by rw [ancL]; simp only [hg]; rw [if_pos e]; exact h1, by omega⟩
    ·have hw := wtH_drop x m e l c (getH_mem hg) (getH_id hg)
     obtain ⟨r, k, h1, h2⟩ := ih (td ++ c.f1) (x :: m) (by rw [List.length_append]; omega) (by omega)
     refine ⟨r, k + 1, ?_, by rw [List.length_cons] at h2; omega⟩
     rw [ancL]
     simp only [hg]
     rw [if_neg e, if_pos (by omega)]
     exact h1
theorem wtH_le (b : Nat) : ∀ (l : List CM), (∀ c ∈ l, c.f1.length ≤ b) → wtH l [] ≤ l.length * (b + 1)
 | [], _ => Nat.zero_le _
 | c :: cs, h => by
  have ih := wtH_le b cs (fun d hd => h d (List.mem_cons_of_mem _ hd))
  have := h c List.mem_cons_self
  unfold wtH at ih ⊢
  rw [List.map_cons, List.sum_cons, List.length_cons, Nat.add_mul, if_neg (by simp)]
  omega
theorem hanc_is {l : List CM} (h : RightL l) (hc : okHs l = true) (a : Int) : ∃ r : List Int, Ev (fun k => history_ancestors.f k l a) r ∧ (∀ x, x ∈ r ↔ Anc l a x) ∧ r.length ≤ 1000 := by
 have hl := h.len
 have hw := wtH_le 20 l (fun c hc => (h.few c hc).1)
 have hw2 : l.length * 21 ≤ 12 * 21 := Nat.mul_le_mul_right _ hl
 obtain ⟨r, k, h1, h2⟩ := ancL_ends l 300 [a] [] (by simp; omega) (by omega)
 have h3 : r.length ≤ 300 := by simpa using h2
 refine ⟨r, Ev.of (fun k => history_ancestors.mono _ _ k) (k := k) ?_, ancL_is h1, by omega⟩
 rw [history_ancestors.f, if_pos ⟨by omega, hc⟩, h1, Option.bind_some, if_pos (by omega)]
theorem RightL.par {l : List CM} (h : RightL l) {i : Nat} (hi : i < l.length) {p : Int} (hp : p ∈ l[i].f1) : ∃ j, ∃ hj : j < l.length, j < i ∧ l[j].f0 = p ∧ getH l p = some l[j] := by
 have hg := (h.parts i hi).1
 have key : ∀ ps : List Int, goneR (l.take i) ps = false → p ∈ ps → (getH (l.take i) p).isSome = true := by
  intro ps
  induction ps with
  | nil => intro _ h; cases h
  | cons q ps ih =>
   intro h1 h2
   rw [goneR, Bool.or_eq_false_iff] at h1
   rcases List.mem_cons.1 h2 with rfl | h2
   ·cases hq : getH (l.take i) p with
    | none => rw [hq] at h1; cases h1.1
    | some c => rfl
   ·exact ih h1.2 h2
 have hs := key _ hg hp
 rcases idx_get p (l.take i) 0 with ⟨_, h2⟩ | ⟨j, hj, _, h2⟩
 ·rw [h2] at hs; cases hs
 ·have hj2 : j < i ∧ j < l.length := by rw [List.length_take] at hj; omega
  have hlj : (l.take i)[j] = l[j]'hj2.2 := List.getElem_take
  rw [hlj] at h2
  refine ⟨j, hj2.2, hj2.1, getH_id h2, ?_⟩
  have := getH_pre p (l.take i) (l.drop i) _ h2
  rwa [List.take_append_drop] at this
theorem RightL.inj {l : List CM} (h : RightL l) {i j : Nat} (hi : i < l.length) (hj : j < l.length) (e : l[i].f0 = l[j].f0) : i = j := by
 rcases Nat.lt_trichotomy i j with h1 | h1 | h1
 ·have := List.pairwise_iff_getElem.1 h.inc.1 i j hi hj h1; omega
 ·exact h1
 ·have := List.pairwise_iff_getElem.1 h.inc.1 j i hj hi h1; omega
theorem RightL.get {l : List CM} (h : RightL l) {i : Nat} (hi : i < l.length) : getH l l[i].f0 = some l[i] := by
 rcases idx_get l[i].f0 l 0 with ⟨_, h2⟩ | ⟨j, hj, _, h2⟩
 ·have : l[i].f0 ≠ l[i].f0 := by
   unfold getH at h2
   rw [List.find?_eq_none] at h2
   simpa using h2 l[i] (List.getElem_mem hi)
  exact absurd rfl this
 ·have := h.inj hj hi (getH_id h2)
  subst this
  exact h2
theorem RightL.at {l : List CM} {y : Int} {c : CM} (hg : getH l y = some c) : ∃ i, ∃ hi : i < l.length, c = l[i] := by
 rcases idx_get y l 0 with ⟨_, h2⟩ | ⟨i, hi, _, h2⟩
 ·rw [hg] at h2; cases h2
 ·rw [hg] at h2; exact ⟨i, hi, Option.some.inj h2⟩
theorem RightL.lt {l : List CM} (h : RightL l) {y p : Int} {c : CM} (hg : getH l y = some c) (hp : p ∈ c.f1) : p < y ∧ (getH l p).isSome = true := by
 obtain ⟨i, hi, rfl⟩ := RightL.at hg
 obtain ⟨j, hj, hji, he, hgp⟩ := h.par hi hp
 have h1 := List.pairwise_iff_getElem.1 h.inc.1 j i hj hi hji
 have h2 := getH_id hg
 exact ⟨by omega, by rw [hgp]; rfl⟩
theorem Anc.le {l : List CM} (h : RightL l) {a x : Int} (hx : Anc l a x) : x ≤ a := by
 induction hx with
 | self _ => omega
 | up _ hg hp _ ih => have := (h.lt hg hp).1; omega

theorem rdL_nat (l : List FS) (i : Nat) (h : i < l.length) : rd_L7 l (i : Int) = l[i] := by
 simp [rd_L7, List.getD_eq_getElem?_getD, List.getElem?_eq_getElem h]
theorem rPaths_l2 (l : FS) (hl : l.length ≤ 1000000) : ∀ d (i : Nat), i + d = l.length → Ev (fun k => r25_paths.l2 k l ((l.take i).map (·.f0)) (i : Int)) (l.map (·.f0)) := by
 intro d
 induction d with
 | zero =>
  intro i hi
  rw [List.take_of_length_le (by omega)]
  refine Ev.step (f := fun _ => some (l.map (·.f0))) (fun k => ?_) (Ev.now _)
  rw [r25_paths.l2, if_neg (by omega)]
 | succ d ih =>
  intro i hi
  have hlt : i < l.length := by omega
  refine Ev.step (fun k => ?_) (ih (i + 1) (by omega))
  rw [r25_paths.l2, if_pos (show (i : Int) < (l.length : Int) by omega), if_pos (by omega), if_pos (by rw [List.length_map, List.length_take]; omega), rdF_nat l i hlt, w1 i (by omega), ← take_snoc l i hlt, List.map_append]
  rfl
theorem rPaths_l01 (ls : List FS) (hn : ls.length ≤ 1000) (hls : ls.flatten.length ≤ 1000000) : ∀ d (i : Nat), i + d = ls.length → Ev (fun k => r25_paths.l0 k (ones (ls.take i).flatten) ls (i : Int)) (pathsM (ls.map contsM)) := by
 intro d
 induction d with
 | zero =>
  intro i hi
  rw [List.take_of_length_le (by omega)]
  have h1 := ones_len ls.flatten
  refine Ev.step (fun k => by rw [r25_paths.l0, if_neg (by omega)]) ?_
  have := rPaths_l2 (ones ls.flatten) (by omega) (ones ls.flatten).length 0 (by omega)
  rw [ones_paths] at this
  exact this
 | succ d ih =>
  intro i hi
  have hlt : i < ls.length := by omega
  refine Ev.step (fun k => by rw [r25_paths.l0, if_pos (show (i : Int) < (ls.length : Int) by omega)]) ?_
  have hfl : (ls.take (i + 1)).flatten = (ls.take i).flatten ++ ls[i] := by
   rw [← take_snoc ls i hlt, List.flatten_append, List.flatten_singleton]
  have hbd : (ls.take (i + 1)).flatten.length ≤ 1000000 := by
   refine Nat.le_trans ?_ hls
   conv => rhs; rw [← List.take_append_drop (i + 1) ls]
   rw [List.flatten_append, List.length_append]
   omega
  rw [hfl, List.length_append] at hbd
  have key : ∀ e (j : Nat), j + e = ls[i].length → Ev (fun k => r25_paths.l1 k (ones ((ls.take i).flatten ++ ls[i].take j)) ls (i : Int) (j : Int)) (pathsM (ls.map contsM)) := by
   intro e
   induction e with
   | zero =>
    intro j hj
    rw [show ls[i].take j = ls[i] from List.take_of_length_le (by omega), ← hfl]
    refine Ev.step (fun k => ?_) (ih (i + 1) (by omega))
    rw [r25_paths.l1, if_pos (by omega), if_pos (show (i : Int) < (ls.length : Int) by omega), rdL_nat ls i hlt, if_neg (by omega), w1 i (by omega)]
   | succ e ihe =>
    intro j hj
    have hlt2 : j < ls[i].length := by omega
    refine Ev.step (fun k => by rw [r25_paths.l1, if_pos (by omega), if_pos (show (i : Int) < (ls.length : Int) by omega), rdL_nat ls i hlt, if_pos (by omega), if_pos (by omega), rdF_nat _ j hlt2, w1 j (by omega)]) ?_
    have h1 := ones_len ((ls.take i).flatten ++ ls[i].take j)
    rw [List.length_append, List.length_take] at h1
    refine Ev.bind (Set_is _ _ 1 (by omega)) ?_
    have := ihe (j + 1) (by omega)
    rw [← take_snoc ls[i] j hlt2, ← List.append_assoc, ones_snoc] at this
    exact this
  have := key ls[i].length 0 (by omega)
  rw [List.take_zero, List.append_nil] at this
  exact this
theorem rPaths_is (l0 l1 l2 : FS) (h0 : l0.length ≤ 100000) (h1 : l1.length ≤ 100000) (h2 : l2.length ≤ 100000) : Ev (fun k => r25_paths.f k l0 l1 l2) (pathsM [contsM l0, contsM l1, contsM l2]) := by
 have := rPaths_l01 [l0, l1, l2] (by simp) (by simp; omega) 3 0 (by simp)
 exact this

def diffR (a b : FS) : List SC := ((pathsM [contsM [], contsM a, contsM b]).filter fun s => decide (blobL a s ≠ blobL b s)).map fun s => (⟨s, blobL b s⟩ : SC)
theorem rDiff_is {a b : FS} (hla : a.length ≤ 100000) (hlb : b.length ≤ 100000) : Ev (fun k => r25_Diff.f k a b) (diffR a b) := by
 refine Ev.bind (rPaths_is [] a b (by simp) (by omega) (by omega)) ?_
 have hpl := pathsM_len3 [] a b (by simp) (by omega) (by omega)
 unfold diffR
 generalize pathsM [contsM [], contsM a, contsM b] = ks at hpl
 have key : ∀ d (i : Nat), i + d = ks.length → Ev (fun k => r25_Diff.l0 k a b (((ks.take i).filter fun s => decide (blobL a s ≠ blobL b s)).map fun s => (⟨s, blobL b s⟩ : SC)) ks (i : Int)) ((ks.filter fun s => decide (blobL a s ≠ blobL b s)).map fun s => (⟨s, blobL b s⟩ : SC)) := by
  intro d
  induction d with
  | zero =>
   intro i hi
   rw [List.take_of_length_le (by omega)]
   refine Ev.step (f := fun _ => some ((ks.filter fun s => decide (blobL a s ≠ blobL b s)).map fun s => (⟨s, blobL b s⟩ : SC))) (fun k => ?_) (Ev.now _)
   rw [r25_Diff.l0, if_neg (by omega)]
  | succ d ih =>
   intro i hi
   have hlt : i < ks.length := by omega
   have hn := ih (i + 1) (by omega)
   rw [← take_snoc ks i hlt, List.filter_append, List.map_append] at hn
   refine Ev.step (fun k => by rw [r25_Diff.l0, if_pos (show (i : Int) < (ks.length : Int) by omega), if_pos (by omega), rdOf_nat _ ks i hlt, w1 i (by omega)]) ?_
   refine Ev.bind (blob_is a _ (by omega)) (Ev.bind (blob_is b _ (by omega)) ?_)
   by_cases e : blobL a ks[i] = blobL b ks[i]
   ·rw [List.filter_cons_of_neg (by simpa using e), List.filter_nil, List.map_nil, List.append_nil] at hn
    exact Ev.ite_pos e hn
   ·rw [List.filter_cons_of_pos (by simpa using e), List.filter_nil] at hn
    refine Ev.ite_neg e (Ev.bind (blob_is b _ (by omega)) (Ev.ite_pos ?_ hn))
    have h1 := List.length_filter_le (fun s => decide (blobL a s ≠ blobL b s)) (ks.take i)
    rw [List.length_take] at h1
    rw [List.length_map]
    omega
 have := key ks.length 0 (by omega)
 rw [List.take_zero] at this
 exact this
theorem mem_diffR {a b : FS} {x : SC} (h : x ∈ diffR a b) : blobL a x.f0 ≠ blobL b x.f0 := by
 obtain ⟨s, hs, rfl⟩ := List.mem_map.1 h
 exact decide_eq_true_iff.1 (List.mem_filter.1 hs).2
theorem diffR_len {a b : FS} (hla : a.length ≤ 100000) (hlb : b.length ≤ 100000) : (diffR a b).length ≤ 300000 := by
 have hpl := pathsM_len3 [] a b (by simp) (by omega) (by omega)
 unfold diffR
 rw [List.length_map]
 exact Nat.le_trans (List.length_filter_le _ _) hpl

open Classical in
noncomputable def ancS (l : List CM) (a : Int) : List Int := uniq ((l.map (·.f0)).filter fun x => decide (Anc l a x))
theorem Anc.there {l : List CM} {a x : Int} (h : Anc l a x) : (getH l x).isSome = true := by
 cases h with
 | self h => exact h
 | up _ _ _ h => exact h
open Classical in
theorem mem_ancS {l : List CM} {a x : Int} : x ∈ ancS l a ↔ Anc l a x := by
 unfold ancS
 rw [mem_uniq, List.mem_filter, decide_eq_true_iff]
 refine ⟨fun h => h.2, fun h => ⟨?_, h⟩⟩
 obtain ⟨c, hc⟩ := Option.isSome_iff_exists.1 h.there
 exact List.mem_map.2 ⟨c, getH_mem hc, getH_id hc⟩
theorem ancS_srt (l : List CM) (a : Int) : (ancS l a).Pairwise (· < ·) := uniq_srt _
theorem ancS_len {l : List CM} (h : RightL l) (a : Int) : (ancS l a).length ≤ 12 := by
 unfold ancS
 refine Nat.le_trans (uniq_len _) (Nat.le_trans (List.length_filter_le _ _) ?_)
 rw [List.length_map]
 exact h.len
theorem hAnc_is {l : List CM} (h : RightL l) (hc : okHs l = true) (a : Int) : Ev (fun k => history_Ancestors.f k l a) (ancS l a) := by
 obtain ⟨r, e, m, _⟩ := hanc_is h hc a
 refine Ev.congr (fun k => Option.map_eq_bind) (Ev.bind e ?_)
 rw [show ancS l a = uniq r from srt_ext (ancS_srt l a) (uniq_srt r) (fun x => by rw [mem_ancS, mem_uniq, m])]
 exact Ev.now _
noncomputable def isM (l : List CM) (a b : Int) : Bool := if a = 0 then (getH l b).isSome || decide (b = 0) else decide (a ∈ ancS l b)
noncomputable def betM (l : List CM) (a b : Int) : List Int := minusS (ancS l b) (ancS l a)
theorem hBet_is {l : List CM} (h : RightL l) (hc : okHs l = true) (a b : Int) : Ev (fun k => history_Between.f k l a b) (betM l a b) := by
 obtain ⟨r, e, m, _⟩ := hanc_is h hc a
 refine Ev.congr (fun k => rfl) (Ev.bind e (Ev.congr (fun k => Option.map_eq_bind) (Ev.bind (hAnc_is h hc b) ?_)))
 rw [show betM l a b = (ancS l b).filter fun x => !decide (x ∈ r) from srt_ext (minusS_srt _ _) ((ancS_srt l b).filter _) (fun x => by rw [betM, mem_minusS, List.mem_filter, mem_ancS (a := a), Bool.not_eq_true', decide_eq_false_iff_not, m])]
 exact Ev.now _
noncomputable def badM (l : List CM) (x y : Int) : Bool := decide (y ≠ x) && decide (x ∈ ancS l y)
noncomputable def comM (l : List CM) (a b : Int) : List Int := andS (ancS l a) (ancS l b)
noncomputable def basM (l : List CM) (a b : Int) : List Int := (comM l a b).filter fun x => !(comM l a b).any (badM l x)
noncomputable def touM (l : List CM) (a b : Int) : List ByteArray := uniqS ((betM l a b).flatMap (pathsH l))
theorem betM_len {l : List CM} (h : RightL l) (a b : Int) : (betM l a b).length ≤ 12 := Nat.le_trans (minusS_len _ _) (ancS_len h b)
theorem hTou_is {l : List CM} (h : RightL l) (hc : okHs l = true) (a b : Int) : Ev (fun k => history_Touched.f k l a b) (touM l a b) := by
 have hl := h.len
 have hb := betM_len h a b
 have ht : okT l = true := List.all_eq_true.2 (fun c hc => decide_eq_true (by have := (h.few c hc).2.1; omega))
 exact Ev.congr (fun k => rfl) (Ev.bind (hBet_is h hc a b) (Ev.ite_pos ⟨⟨by omega, by omega⟩, ht⟩ (Ev.now _)))
theorem getR_few {l : List CM} (h : RightL l) (x : Int) : (getR l x).2.1.length ≤ 20 ∧ (getR l x).2.2.1.length ≤ 20 := by
 cases hg : getH l x with
 | none => rw [getR_none hg]; simp
 | some c => rw [getR_some hg]; exact ⟨(h.few c (getH_mem hg)).1, (h.few c (getH_mem hg)).2.1⟩
theorem flat_len (l : List CM) {b : Nat} : ∀ ids : List Int, (∀ x, (getR l x).2.2.1.length ≤ b) → (ids.flatMap (pathsH l)).length ≤ ids.length * b
 | [], _ => by simp
 | x :: xs, h => by
  have ih := flat_len l xs h
  have := h x
  rw [List.flatMap_cons, List.length_append, List.length_cons, Nat.add_mul]
  unfold pathsH at ih ⊢
  rw [List.length_map]
  omega
theorem touM_len {l : List CM} (h : RightL l) (a b : Int) : (touM l a b).length ≤ 1000 := by
 have h1 := flat_len l (betM l a b) (fun x => (getR_few h x).2)
 have h2 := betM_len h a b
 have h3 := uniqS_len ((betM l a b).flatMap (pathsH l))
 have h4 : (betM l a b).length * 20 ≤ 12 * 20 := Nat.mul_le_mul_right _ h2
 unfold touM
 omega

theorem applyR_blob {s : ByteArray} : ∀ (cs : List SC) {r r' : FS}, IncF r → applyR r cs = some r' → (∀ c ∈ cs, c.f0 ≠ s) → blobL r' s = blobL r s
 | [], r, r', _, h, _ => by obtain rfl := Option.some.inj h; rfl
 | c :: cs, r, r', hi, h, hc => by
  rw [applyR] at h
  have h1 : c.f0 ≠ s := hc c List.mem_cons_self
  have h2 : ∀ d ∈ cs, d.f0 ≠ s := fun d hd => hc d (List.mem_cons_of_mem _ hd)
  by_cases e : c.f1 = 0
  ·rw [if_pos e] at h
   by_cases e2 : thereL r c.f0 = true
   ·rw [if_pos e2] at h
    rw [applyR_blob cs (setM_inc hi _ _) h h2, blob_set hi, if_neg h1]
   ·rw [if_neg e2] at h; cases h
  ·rw [if_neg e] at h
   rw [applyR_blob cs (setM_inc hi _ _) h h2, blob_set hi, if_neg h1]
theorem applyOut_blob {f : FS} {cs : List SC} (h : (applyOut f cs).2 = 0) {s : ByteArray} (hs : ∀ c ∈ cs, c.f0 ≠ s) : blobL (applyOut f cs).1 s = blobL f s := by
 unfold applyOut at h ⊢
 by_cases e : rightM f = 0
 ·rw [if_pos e] at h ⊢
  by_cases e2 : cs.length > 16
  ·rw [if_pos e2] at h; cases h
  ·rw [if_neg e2] at h ⊢
   cases hr : applyR f cs with
   | none => rw [hr] at h; cases h
   | some r =>
    simp only [hr] at h ⊢
    by_cases e3 : rightM r = 0
    ·simp only [if_pos e3]
     exact applyR_blob cs (tree_of e).inc hr hs
    ·simp only [if_neg e3] at h; exact absurd h e3
 ·rw [if_neg e] at h; exact absurd h e
theorem rTreeM_idx {l : List CM} {x : Int} {j : Nat} (hj : j < l.length) (h0 : x ≠ 0) (h : idxH x l 0 = some j) : rTreeM l x = (filesAt l j hj, 0) := by
 unfold rTreeM
 rw [if_neg h0, fget_files, h]
 simp only [Option.bind_some, List.getElem?_eq_getElem hj, Option.map_some]
 rfl
def firstP : List Int → Int
 | [] => 0
 | p :: _ => p
theorem rTreeM_at {l : List CM} (h : RightL l) {i : Nat} (hi : i < l.length) : rTreeM l l[i].f0 = (filesAt l i hi, 0) := by
 have hp := h.inc.2 _ (List.getElem_mem hi)
 rcases idx_get l[i].f0 l 0 with ⟨_, h2⟩ | ⟨j, hj, h1, h2⟩
 ·rw [h.get hi] at h2; cases h2
 ·rw [h.get hi] at h2
  have h3 : l[i] = l[j] := Option.some.inj h2
  have := h.inj hi hj (by rw [h3])
  subst this
  rw [Nat.zero_add] at h1
  exact rTreeM_idx hi (by omega) h1
theorem rTreeM_first {l : List CM} (h : RightL l) {i : Nat} (hi : i < l.length) : rTreeM l (firstP l[i].f1) = (fparM (filesM' (l.take i)) l[i].f1, 0) := by
 have hg := (h.parts i hi).1
 have hinc := incI_of h.ck i (by omega)
 cases hf : l[i].f1 with
 | nil => rfl
 | cons p ps =>
  rw [hf] at hg
  obtain ⟨j, hj, hji, hgp, h1, h2⟩ := fparM_at hinc hg (by omega)
  rw [h2]
  refine rTreeM_idx hj ?_ h1
  have h3 := hinc.2 _ (getH_mem hgp)
  have h4 := getH_id hgp
  show p ≠ 0
  omega
theorem rTreeM_same {l : List CM} (h : RightL l) {i : Nat} (hi : i < l.length) {s : ByteArray} (hs : ∀ c ∈ l[i].f2, c.f0 ≠ s) : blobL (filesAt l i hi) s = blobL (fparM (filesM' (l.take i)) l[i].f1) s :=
 applyOut_blob (h.parts i hi).2 hs
theorem firstP_lt {l : List CM} (h : RightL l) {i : Nat} (hi : i < l.length) : firstP l[i].f1 < l[i].f0 := by
 have hp := h.inc.2 _ (List.getElem_mem hi)
 cases hf : l[i].f1 with
 | nil => simp only [firstP]; omega
 | cons p ps => exact (h.lt (h.get hi) (by rw [hf]; exact List.mem_cons_self)).1
theorem mem_touM {l : List CM} (h : RightL l) {i : Nat} (hi : i < l.length) {c : SC} (hc : c ∈ l[i].f2) : c.f0 ∈ touM l (firstP l[i].f1) l[i].f0 := by
 unfold touM
 rw [mem_uniqS, List.mem_flatMap]
 refine ⟨l[i].f0, ?_, ?_⟩
 ·rw [betM, mem_minusS, mem_ancS, mem_ancS]
  refine ⟨Anc.self (by rw [h.get hi]; rfl), fun h1 => ?_⟩
  have := h1.le h
  have := firstP_lt h hi
  omega
 ·rw [pathsH, getR_some (h.get hi)]
  exact List.mem_map.2 ⟨c, hc, rfl⟩
end Go.Proofs.YtgadbpljlpclnaaGreatDoor.Q

/-! What is to be proved of HistoryChanges, over numbers and lists alone; how its arguments are read. -/
namespace Go.Proofs.YtgadbpljlpclnaaGreatDoor.StHistoryChanges
open Go.RowKit Go.Proofs.YtgadbpljlpclnaaGreatDoor.H Go.Proofs.YtgadbpljlpclnaaGreatDoor.Q Go.Proofs.YtgadbpljlpclnaaGreatDoorW.PrintWords Go.Proofs.YtgadbpljlpclnaaGreatDoorW.PrintLast
set_option linter.unusedVariables false
def g53 (U : Nat) (x : S53) : Prop := (x.f0.size ≤ 140737488351232 ∧ x.f0.size ≤ U) ∧ (Lit.int .i64 x.f1).wf = true
theorem rd53 : Rd Tryz.prog k53 53 g53 := Rd.struct (ts := [9, 3]) (fun a => (⟨a.1, a.2⟩ : S53)) (fun a => rfl) Tryz.underlying53 (by kernel_rfl) (by kernel_rfl) (RdF.cons (Rd.string Tryz.underlying9) (RdF.one (Rd.int Tryz.underlying3)))
def g28 (U : Nat) (x : S28) : Prop := (Lit.int .i64 x.f0).wf = true ∧ (x.f1.length * 8 ≤ 140737488351232 ∧ x.f1.length ≤ maxLen ∧ x.f1.length ≤ U ∧ ∀ y ∈ x.f1, (Lit.int .i64 y).wf = true) ∧ (x.f2.length * 24 ≤ 140737488351232 ∧ x.f2.length ≤ maxLen ∧ x.f2.length ≤ U ∧ ∀ y ∈ x.f2, g53 U y) ∧ (Lit.int .i64 x.f3).wf = true ∧ (Lit.int .i64 x.f4).wf = true
theorem rd28 : Rd Tryz.prog k28 28 g28 := Rd.struct (ts := [3, 25, 26, 3, 3]) (fun a => (⟨a.1, a.2.1, a.2.2.1, a.2.2.2.1, a.2.2.2.2⟩ : S28)) (fun a => rfl) Tryz.underlying28 (by kernel_rfl) (by kernel_rfl) (RdF.cons (Rd.int Tryz.underlying3) (RdF.cons (Rd.slice (B := 8) Tryz.underlying25 (by kernel_rfl) (by kernel_rfl) (Rd.int Tryz.underlying3)) (RdF.cons (Rd.slice (B := 24) Tryz.underlying26 (by kernel_rfl) (by kernel_rfl) rd53) (RdF.cons (Rd.int Tryz.underlying3) (RdF.one (Rd.int Tryz.underlying3))))))
/-- THE PURE STATEMENT. -/
def Pure : Prop := ∀ (U : Nat) (x0 : List (S28)) (x1 : Int), (x0.length * 72 ≤ 140737488351232 ∧ x0.length ≤ maxLen ∧ x0.length ≤ U ∧ ∀ y ∈ x0, g28 U y) → (Lit.int .i64 x1).wf = true → ∃ k, l26_HistoryChanges.f k x0 x1 = some true
end Go.Proofs.YtgadbpljlpclnaaGreatDoor.StHistoryChanges

/-! HistoryChanges, over lists alone. -/
namespace Go.Proofs.YtgadbpljlpclnaaGreatDoor.Pure
open Go.RowKit Go.Proofs.YtgadbpljlpclnaaGreatDoorW.PrintWords Go.Proofs.YtgadbpljlpclnaaGreatDoorW.PrintLast Go.Proofs.YtgadbpljlpclnaaGreatDoorW.PrintMore Go.Proofs.YtgadbpljlpclnaaGreatDoor.H Go.Proofs.YtgadbpljlpclnaaGreatDoor.Q
set_option linter.unusedVariables false
set_option linter.unusedSimpArgs false
theorem beq_bytes {a b : ByteArray} (h : a = b) : (a.toList == b.toList) = true := by rw [h]; exact beq_self_eq_true _
theorem chg_l3 (t : List ByteArray) (ht : t.length ≤ 1000) (c0 c3 c4 : Int) (c1 : List Int) (c2 : List SC) (h2 : c2.length ≤ 1000) (i : Nat) (hi : i < c2.length) (hnext : Ev (fun k => l26_HistoryChanges.l2 k t ((i + 1 : Nat) : Int) c0 c1 c2 c3 c4) true) :
  ∀ e (j : Nat) (f : Bool), j + e = t.length → (f = true ∨ c2[i].f0 ∈ t.drop j) → Ev (fun k => l26_HistoryChanges.l3 k t (i : Int) f (j : Int) c0 c1 c2 c3 c4) true := by
 intro e
 induction e with
 | zero =>
  intro j f hj h
  rw [List.drop_of_length_le (by omega)] at h
  have hf : f = true := h.resolve_right (fun h => by cases h)
  subst hf
  exact Ev.step (fun k => by rw [l26_HistoryChanges.l3, if_neg (by omega), if_pos rfl, w1 i (by omega)]) hnext
 | succ e ih =>
  intro j f hj h
  have hlt : j < t.length := by omega
  cases f with
  | true => exact Ev.step (fun k => by rw [l26_HistoryChanges.l3, if_pos (show (j : Int) < (t.length : Int) by omega), if_pos rfl, w1 j (by omega)]) (ih (j + 1) true (by omega) (.inl rfl))
  | false =>
   have h1 := h.resolve_left (by decide)
   rw [drop_cons t j hlt] at h1
   refine Ev.step (fun k => by rw [l26_HistoryChanges.l3, if_pos (show (j : Int) < (t.length : Int) by omega), if_neg (by decide), if_pos (by omega), if_pos (by omega), if_pos (by omega), rdOf_nat _ t j hlt, rdX_at c2 i hi, w1 j (by omega)]) (ih (j + 1) _ (by omega) ?_)
   rcases List.mem_cons.1 h1 with h1 | h1
   ·exact .inl (beq_bytes h1.symm)
   ·exact .inr h1
theorem chg_l2 (t : List ByteArray) (ht : t.length ≤ 1000) (c0 c3 c4 : Int) (c1 : List Int) (c2 : List SC) (h2 : c2.length ≤ 1000) (hin : ∀ c ∈ c2, c.f0 ∈ t) : ∀ e (i : Nat), i + e = c2.length → Ev (fun k => l26_HistoryChanges.l2 k t (i : Int) c0 c1 c2 c3 c4) true := by
 intro e
 induction e with
 | zero =>
  intro i hi
  refine Ev.step (f := fun _ => some true) (fun k => ?_) (Ev.now _)
  rw [l26_HistoryChanges.l2, if_neg (by omega)]
 | succ e ih =>
  intro i hi
  have hlt : i < c2.length := by omega
  refine Ev.step (fun k => by rw [l26_HistoryChanges.l2, if_pos (show (i : Int) < (c2.length : Int) by omega)]) ?_
  exact chg_l3 t ht c0 c3 c4 c1 c2 h2 i hlt (ih (i + 1) (by omega)) t.length 0 false (by omega) (.inr (by rw [List.drop_zero]; exact hin _ (List.getElem_mem hlt)))
theorem chg_l1 (d : List SC) (t : List ByteArray) (hd : d.length ≤ 1000000) (c0 c3 c4 : Int) (c1 : List Int) (c2 : List SC) (h2 : c2.length ≤ 1000) (i : Nat) (hi : i < d.length) (hnext : Ev (fun k => l26_HistoryChanges.l0 k d t ((i + 1 : Nat) : Int) c0 c1 c2 c3 c4) true) :
  ∀ e (j : Nat) (f : Bool), j + e = c2.length → (f = true ∨ ∃ c ∈ c2.drop j, c.f0 = d[i].f0) → Ev (fun k => l26_HistoryChanges.l1 k d t (i : Int) f (j : Int) c0 c1 c2 c3 c4) true := by
 intro e
 induction e with
 | zero =>
  intro j f hj h
  rw [List.drop_of_length_le (by omega)] at h
  have hf : f = true := h.resolve_right (fun h => by obtain ⟨c, hc, _⟩ := h; cases hc)
  subst hf
  exact Ev.step (fun k => by rw [l26_HistoryChanges.l1, if_neg (by omega), if_pos rfl, w1 i (by omega)]) hnext
 | succ e ih =>
  intro j f hj h
  have hlt : j < c2.length := by omega
  cases f with
  | true => exact Ev.step (fun k => by rw [l26_HistoryChanges.l1, if_pos (show (j : Int) < (c2.length : Int) by omega), if_pos rfl, w1 j (by omega)]) (ih (j + 1) true (by omega) (.inl rfl))
  | false =>
   obtain ⟨c, hc, he⟩ := h.resolve_left (by decide)
   rw [drop_cons c2 j hlt] at hc
   refine Ev.step (fun k => by rw [l26_HistoryChanges.l1, if_pos (show (j : Int) < (c2.length : Int) by omega), if_neg (by decide), if_pos (by omega), if_pos (by omega), if_pos (by omega), rdX_at c2 j hlt, rdX_at d i hi, w1 j (by omega)]) (ih (j + 1) _ (by omega) ?_)
   rcases List.mem_cons.1 hc with rfl | hc
   ·exact .inl (beq_bytes he)
   ·exact .inr ⟨c, hc, he⟩
theorem chg_l0 (d : List SC) (t : List ByteArray) (hd : d.length ≤ 1000000) (ht : t.length ≤ 1000) (c0 c3 c4 : Int) (c1 : List Int) (c2 : List SC) (h2 : c2.length ≤ 1000) (hin : ∀ c ∈ c2, c.f0 ∈ t) (hdin : ∀ x ∈ d, ∃ c ∈ c2, c.f0 = x.f0) : ∀ e (i : Nat), i + e = d.length → Ev (fun k => l26_HistoryChanges.l0 k d t (i : Int) c0 c1 c2 c3 c4) true := by
 intro e
 induction e with
 | zero =>
  intro i hi
  refine Ev.step (fun k => by rw [l26_HistoryChanges.l0, if_neg (by omega)]) ?_
  exact chg_l2 t ht c0 c3 c4 c1 c2 h2 hin c2.length 0 (by omega)
 | succ e ih =>
  intro i hi
  have hlt : i < d.length := by omega
  refine Ev.step (fun k => by rw [l26_HistoryChanges.l0, if_pos (show (i : Int) < (d.length : Int) by omega)]) ?_
  exact chg_l1 d t hd c0 c3 c4 c1 c2 h2 i hlt (ih (i + 1) (by omega)) c2.length 0 false (by omega) (.inr (by rw [List.drop_zero]; exact hdin _ (List.getElem_mem hlt)))
theorem HistoryChanges : StHistoryChanges.Pure := by
 intro U l id hl hid
 refine Ev.rounds (Ev.congr (fun k => rfl) (Ev.bind alive26 (Ev.ite_pos rfl (Ev.bind (right_is l) ?_))))
 cases hf : rightL l with
 | false => exact Ev.ite_neg (by decide) (Ev.now _)
 | true =>
  have hr := right_of hf
  have hok : okHs l = true := List.all_eq_true.2 (fun c hc => okV_wf (hl.2.2.2 c hc).1)
  have hx : ∀ c ∈ l, okX c := fun c hc y hy => ⟨by have := (hr.few c hc).2.2 y hy; omega, okI_wf ((hl.2.2.2 c hc).2.2.1.2.2.2 y hy).2⟩
  have hllen := hr.len
  refine Ev.ite_pos rfl (Ev.bind (hGet_is l id (by omega)) ?_)
  cases hg : getH l id with
  | none =>
   rw [getR_none hg]
   exact Ev.ite_neg (by simp) (Ev.now _)
  | some c =>
   obtain ⟨i, hi, rfl⟩ := RightL.at hg
   obtain rfl := getH_id hg
   rw [getR_some hg]
   refine Ev.ite_pos (by trivial) ?_
   have hfew := hr.few _ (List.getElem_mem hi)
   have hj0 : Ev (fun k => l26_HistoryChanges.j0 k l l[i].f0 (firstP l[i].f1) l[i].f0 l[i].f1 l[i].f2 l[i].f3 l[i].f4) true := by
    refine Ev.step (fun k => by rw [l26_HistoryChanges.j0]) (Ev.bind (hTree_is hr hx _) (Ev.bind (hTree_is hr hx _) ?_))
    have hlen1 := rTreeM_len l (firstP l[i].f1)
    have hlen2 := rTreeM_len l l[i].f0
    rw [rTreeM_at hr hi] at hlen2 ⊢
    rw [rTreeM_first hr hi] at hlen1 ⊢
    have k1 : (fparM (filesM' (l.take i)) l[i].f1).length ≤ 100000 := by
     cases hf1 : l[i].f1 with
     | nil => simp [fparM]
     | cons p ps =>
      have hg := (hr.parts i hi).1
      rw [hf1] at hg
      obtain ⟨j, hj, _, _, _, h2⟩ := fparM_at (incI_of hr.ck i (by omega)) hg (by omega)
      rw [h2]
      have := applyOut_len (fparM (filesM' (l.take j)) l[j].f1) l[j].f2
      unfold filesAt afterM
      omega
    have k2 : (filesAt l i hi).length ≤ 100000 := by
     have := applyOut_len (fparM (filesM' (l.take i)) l[i].f1) l[i].f2
     unfold filesAt afterM
     omega
    have hdl := diffR_len k1 k2
    have htl := touM_len hr (firstP l[i].f1) l[i].f0
    refine Ev.ite_pos rfl (Ev.step (fun k => by rw [l26_HistoryChanges.j1, if_neg (by simp)]) (Ev.bind (rDiff_is k1 k2) (Ev.bind (hTou_is hr hok _ _) ?_)))
    refine chg_l0 _ _ (by omega) htl _ _ _ _ _ (by omega) (fun c hc => mem_touM hr hi hc) (fun x hx => ?_) (diffR (fparM (filesM' (l.take i)) l[i].f1) (filesAt l i hi)).length 0 (by omega)
    have h1 := mem_diffR hx
    refine Classical.byContradiction fun hn => h1 ?_
    exact (rTreeM_same hr hi (fun c hc e => hn ⟨c, hc, e⟩)).symm
   cases hf1 : l[i].f1 with
   | nil =>
    rw [hf1] at hj0
    exact Ev.ite_neg (by simp) hj0
   | cons p ps =>
    rw [hf1] at hj0
    exact Ev.ite_pos (by simp) (Ev.ite_pos (by simp) hj0)
end Go.Proofs.YtgadbpljlpclnaaGreatDoor.Pure
