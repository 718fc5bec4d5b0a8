import Derived.Test.YtpnhamfodjfacaaDoorQGen
import Derived.Test.YtpnhamfodjfacaaDoorMQSetS
import Derived.Lib.IndexLaws
import Derived.Test.YtpnhamfodjfacaaDoorMx4
import Derived.Test.YtpnhamfodjfacaaDoorMx9
import Derived.Sort.Walk0
import Derived.Test.YtpnhamfodjfacaaDoorMx5
import Derived.Test.YtpnhamfodjfacaaDoorMx10
import Derived.Test.YtpnhamfodjfacaaDoorMx7
import Derived.Test.YtpnhamfodjfacaaDoorMx6
import Derived.Test.YtpnhamfodjfacaaDoorMx11
import Derived.Test.YtpnhamfodjfacaaDoorMx8
import Derived.Test.YtpnhamfodjfacaaDoorMx12
namespace Go.Proofs.YtpnhamfodjfacaaDoor.Q
open Go.RowKit Go.Proofs.YtpnhamfodjfacaaDoorW.PrintWords Go.Proofs.YtpnhamfodjfacaaDoorW.PrintLast Go.Proofs.YtpnhamfodjfacaaDoorW.PrintMore Go.Proofs.YtpnhamfodjfacaaDoor.M
set_option linter.unusedVariables false
set_option linter.unusedSimpArgs false
theorem bl_len (s : ByteArray) : (bl s).length = s.size := rfl
theorem toList_bl (s : ByteArray) : s.toList = bl s := ByteArray.toList_eq s
theorem toList_eq_iff {s t : ByteArray} : s.toList = t.toList ↔ s = t := by
 rw [toList_bl, toList_bl]; exact ⟨bl_inj, fun h => by rw [h]⟩
theorem bl_ext (s : ByteArray) (a b : Nat) : bl (s.extract a b) = ((bl s).drop a).take (b - a) := by
 unfold bl
 rw [ByteArray.data_extract, Array.toList_extract, List.extract_eq_take_drop]
theorem bt_bl (s : ByteArray) (j : Nat) (h : j < (bl s).length) : bt s (j : Int) = (((bl s)[j]).toNat : Int) := by
 have h' : j < s.size := h
 rw [bt, dif_pos (show ((j : Int)).toNat < s.size from h')]
 rfl
def okc (c : UInt8) : Bool := (97 ≤ c && c ≤ 122) || (65 ≤ c && c ≤ 90) || (48 ≤ c && c ≤ 57) || c == 46 || c == 95 || c == 45
def okname (p : List UInt8) : Bool := decide (1 ≤ p.length) && (decide (p.length ≤ 24) && (decide (p ≠ [46]) && (decide (p ≠ [46, 46]) && p.all okc)))
def split47 : List UInt8 → List (List UInt8)
 | [] => [[]]
 | c :: l => if c = 47 then [] :: split47 l else match split47 l with
  | [] => [[c]]
  | p :: ps => (c :: p) :: ps
theorem split_none : ∀ {l : List UInt8}, (47 : UInt8) ∉ l → split47 l = [l]
 | [], _ => rfl
 | c :: l, h => by
  rw [List.mem_cons, not_or] at h
  rw [split47, if_neg (fun e => h.1 e.symm), split_none h.2]
theorem split_at : ∀ {p : List UInt8} (r : List UInt8), (47 : UInt8) ∉ p → split47 (p ++ 47 :: r) = p :: split47 r
 | [], r, _ => by rw [List.nil_append, split47, if_pos rfl]
 | c :: p, r, h => by
  rw [List.mem_cons, not_or] at h
  rw [List.cons_append, split47, if_neg (fun e => h.1 e.symm), split_at r h.2]
def validP (s : ByteArray) : Bool := decide (s.size ≤ 60) && (split47 (bl s)).all okname
theorem rLD_is (c : UInt8) : codesearchref02_Letter.f (c.toNat : Int) = some ((97 ≤ c && c ≤ 122) || (65 ≤ c && c ≤ 90)) ∧ codesearchref02_Digit.f (c.toNat : Int) = some (48 ≤ c && c ≤ 57) := by
 have key : ∀ n : Fin 256, codesearchref02_Letter.f ((n.val : Nat) : Int) = some ((97 ≤ UInt8.ofNat n.val && UInt8.ofNat n.val ≤ 122) || (65 ≤ UInt8.ofNat n.val && UInt8.ofNat n.val ≤ 90)) ∧ codesearchref02_Digit.f ((n.val : Nat) : Int) = some (48 ≤ UInt8.ofNat n.val && UInt8.ofNat n.val ≤ 57) := by decide +kernel
 have h := key ⟨c.toNat, c.toNat_lt⟩
 rwa [UInt8.ofNat_toNat] at h
theorem u8_eq (c : UInt8) (n : Nat) (h : n < 256) : ((c.toNat : Int) = (n : Int)) ↔ c = UInt8.ofNat n := by
 constructor
 ·intro e
  have e2 : c.toNat = n := by omega
  rw [← e2, UInt8.ofNat_toNat]
 ·intro e
  rw [e, UInt8.toNat_ofNat']
  omega
theorem rname_l0 (p : ByteArray) (hp : p.size ≤ 100000) : ∀ d (j : Nat), j + d = p.size → Ev (fun k => codesearchref02_name.l0 k p (j : Int)) (((bl p).drop j).all okc) := by
 intro d
 induction d with
 | zero =>
  intro j hj
  rw [List.drop_of_length_le (by rw [bl_len]; omega)]
  refine Ev.step (f := fun _ => some true) (fun k => ?_) (Ev.now _)
  rw [codesearchref02_name.l0, if_neg (by omega)]
 | succ d ih =>
  intro j hj
  have hlt : j < (bl p).length := by rw [bl_len]; omega
  have hn := ih (j + 1) (by omega)
  rw [drop_cons _ j hlt, List.all_cons]
  have hw : wrap64 ((j : Int) + 1) = ((j + 1 : Nat) : Int) := by rw [w64 (by omega) (by omega)]; rfl
  refine Ev.step (fun k => by rw [codesearchref02_name.l0, if_pos (by omega), if_pos (by omega), bt_bl p j hlt, (rLD_is _).1, Option.bind_some, hw]) ?_
  generalize (bl p)[j] = c
  by_cases h1 : ((97 ≤ c && c ≤ 122) || (65 ≤ c && c ≤ 90)) = true
  ·refine Ev.ite_pos h1 ?_
   rw [okc, h1]; simpa using hn
  refine Ev.ite_neg h1 (Ev.bind_eq (rLD_is c).2 ?_)
  by_cases h2 : (48 ≤ c && c ≤ 57) = true
  ·refine Ev.ite_pos h2 ?_
   rw [okc, h2]; simpa using hn
  refine Ev.ite_neg h2 ?_
  by_cases h3 : c = 46
  ·refine Ev.ite_pos ((u8_eq c 46 (by omega)).2 h3) ?_
   rw [okc, h3]; simpa using hn
  refine Ev.ite_neg (fun e => h3 ((u8_eq c 46 (by omega)).1 e)) ?_
  by_cases h4 : c = 95
  ·refine Ev.ite_pos ((u8_eq c 95 (by omega)).2 h4) ?_
   rw [okc, h4]; simpa using hn
  refine Ev.ite_neg (fun e => h4 ((u8_eq c 95 (by omega)).1 e)) ?_
  by_cases h5 : c = 45
  ·refine Ev.ite_pos ((u8_eq c 45 (by omega)).2 h5) ?_
   rw [okc, h5]; simpa using hn
  refine Ev.ite_neg (fun e => h5 ((u8_eq c 45 (by omega)).1 e)) ?_
  have e : okc c = false := by
   rw [okc, Bool.eq_false_iff.2 h1, Bool.eq_false_iff.2 h2, beq_eq_false_iff_ne.2 h3, beq_eq_false_iff_ne.2 h4, beq_eq_false_iff_ne.2 h5]; rfl
  rw [e, Bool.false_and]
  exact Ev.now _
theorem rname_is (p : ByteArray) (hp : p.size ≤ 100000) : Ev (fun k => codesearchref02_name.f k p) (okname (bl p)) := by
 have hf : okname (bl p) = false → Ev (fun k => codesearchref02_name.j0 k p true) (okname (bl p)) := by
  intro e
  rw [e]
  refine Ev.step (f := fun _ => some false) (fun k => ?_) (Ev.now _)
  rw [codesearchref02_name.j0, if_pos rfl]
 refine Ev.congr (fun k => by rw [codesearchref02_name.f, toList_bl]) ?_
 by_cases h3 : (p.size : Int) < 1
 ·exact Ev.ite_pos h3 (hf (by rw [okname, decide_eq_false (by rw [bl_len]; omega), Bool.false_and]))
 refine Ev.ite_neg h3 ?_
 by_cases h4 : (p.size : Int) > 24
 ·exact Ev.ite_pos h4 (hf (by rw [okname, decide_eq_false (show ¬ (bl p).length ≤ 24 by rw [bl_len]; omega), Bool.false_and, Bool.and_false]))
 refine Ev.ite_neg h4 ?_
 by_cases h1 : bl p = [46]
 ·exact Ev.ite_pos h1 (hf (by rw [h1]; decide))
 refine Ev.ite_neg h1 ?_
 by_cases h2 : bl p = [46, 46]
 ·rw [beq_iff_eq.2 h2]
  exact hf (by rw [h2]; decide)
 rw [beq_eq_false_iff_ne.2 h2]
 have e : okname (bl p) = (bl p).all okc := by
  rw [okname, decide_eq_true (show 1 ≤ (bl p).length by rw [bl_len]; omega), decide_eq_true (show (bl p).length ≤ 24 by rw [bl_len]; omega), decide_eq_true h1, decide_eq_true h2]; simp
 rw [e]
 refine Ev.step (fun k => by rw [codesearchref02_name.j0, if_neg (by decide)]) ?_
 exact rname_l0 p hp p.size 0 (by omega)
theorem rValid_l0 (s : ByteArray) (hs : s.size ≤ 100000) : ∀ d (b a : Nat), b + d = s.size → a ≤ b → (47 : UInt8) ∉ ((bl s).drop a).take (b - a) →
  Ev (fun k => codesearchref02_ValidPath.l0 k s (a : Int) (b : Int)) ((split47 ((bl s).drop a)).all okname) := by
 intro d
 induction d with
 | zero =>
  intro b a hb hab hno
  obtain rfl : b = s.size := by omega
  have hd : ((bl s).drop a).take (s.size - a) = (bl s).drop a := List.take_of_length_le (by rw [List.length_drop, bl_len]; omega)
  rw [hd] at hno
  have he : bl (s.extract a s.size) = (bl s).drop a := by rw [bl_ext, hd]
  refine Ev.step (fun k => by rw [codesearchref02_ValidPath.l0, if_pos (Int.le_refl _), if_pos rfl]) (Ev.step (fun k => by rw [codesearchref02_ValidPath.j1, if_pos rfl, if_pos (by omega), if_pos (by omega), if_pos (by omega), Int.toNat_natCast, Int.toNat_natCast]) ?_)
  have hn := rname_is (s.extract a s.size) (by rw [ByteArray.size_extract]; omega)
  rw [he] at hn
  rw [split_none hno, List.all_cons, List.all_nil, Bool.and_true]
  refine Ev.bind hn ?_
  by_cases h : okname ((bl s).drop a) = true
  ·rw [h]
   refine Ev.ite_pos rfl (Ev.step (f := fun _ => some true) (fun k => ?_) (Ev.now _))
   rw [codesearchref02_ValidPath.l0, w64 (by omega) (by omega), if_neg (by omega)]
  ·rw [Bool.eq_false_iff.2 h]
   exact Ev.ite_neg (by simp) (Ev.now _)
 | succ d ih =>
  intro b a hb hab hno
  have hlt : b < (bl s).length := by rw [bl_len]; omega
  have hw : wrap64 ((b : Int) + 1) = ((b + 1 : Nat) : Int) := by rw [w64 (by omega) (by omega)]; rfl
  refine Ev.step (fun k => by rw [codesearchref02_ValidPath.l0, if_pos (by omega), if_neg (by omega), if_pos (by omega), if_pos (by omega), bt_bl s b hlt]) ?_
  have hsp : (bl s).drop a = ((bl s).drop a).take (b - a) ++ (bl s)[b] :: (bl s).drop (b + 1) := by
   have h1 := List.take_append_drop (b - a) ((bl s).drop a)
   rw [List.drop_drop, show a + (b - a) = b by omega, drop_cons _ b hlt] at h1
   exact h1.symm
  by_cases h : (bl s)[b] = 47
  ·rw [show (((bl s)[b].toNat : Int) == 47) = true from beq_iff_eq.2 ((u8_eq _ 47 (by omega)).2 h)]
   have he : bl (s.extract a b) = ((bl s).drop a).take (b - a) := bl_ext s a b
   have hn := rname_is (s.extract a b) (by rw [ByteArray.size_extract]; omega)
   rw [he] at hn
   rw [h] at hsp
   refine Ev.step (fun k => by rw [codesearchref02_ValidPath.j1, if_pos rfl, if_pos (by omega), if_pos (by omega), if_pos (by omega), Int.toNat_natCast, Int.toNat_natCast, hw]) (Ev.bind hn ?_)
   rw [hsp, split_at _ hno, List.all_cons]
   rw [← hsp]
   by_cases h2 : okname (((bl s).drop a).take (b - a)) = true
   ·rw [h2, Bool.true_and]
    refine Ev.ite_pos rfl ?_
    exact ih (b + 1) (b + 1) (by omega) (Nat.le_refl _) (by rw [Nat.sub_self, List.take_zero]; simp)
   ·rw [Bool.eq_false_iff.2 h2, Bool.false_and]
    exact Ev.ite_neg (by simp) (Ev.now _)
  ·rw [show (((bl s)[b].toNat : Int) == 47) = false from beq_eq_false_iff_ne.2 (fun e => h ((u8_eq _ 47 (by omega)).1 e))]
   refine Ev.step (fun k => by rw [codesearchref02_ValidPath.j1, if_neg (by decide), hw]) ?_
   refine ih (b + 1) a (by omega) (by omega) ?_
   have h3 : ((bl s).drop a).take (b + 1 - a) = ((bl s).drop a).take (b - a) ++ [(bl s)[b]] := by
    rw [show b + 1 - a = (b - a) + 1 by omega, List.take_succ_eq_append_getElem (by rw [List.length_drop]; omega)]
    congr 2
    rw [List.getElem_drop]
    congr 1
    omega
   rw [h3, List.mem_append, not_or]
   exact ⟨hno, by rw [List.mem_singleton]; exact fun e => h e.symm⟩
theorem rValidPath_is (s : ByteArray) : Ev (fun k => codesearchref02_ValidPath.f k s) (validP s) := by
 by_cases h : (s.size : Int) > 60
 ·refine Ev.congr (fun k => ?_) (Ev.now _)
  rw [codesearchref02_ValidPath.f, if_pos h, validP, decide_eq_false (by omega), Bool.false_and]
 ·have hs : s.size ≤ 60 := by omega
  refine Ev.congr (fun k => by rw [codesearchref02_ValidPath.f, if_neg h]) ?_
  rw [validP, decide_eq_true hs, Bool.true_and]
  have := rValid_l0 s (by omega) s.size 0 0 (by omega) (Nat.le_refl _) (by rw [Nat.sub_self, List.take_zero]; simp)
  rw [List.drop_zero] at this
  exact this
def underP (p d : ByteArray) : Bool := decide (bl d = []) || decide (bl p = bl d ++ 47 :: (bl p).drop ((bl d).length + 1))
theorem under_iff {p d : List UInt8} : p = d ++ 47 :: p.drop (d.length + 1) ↔ p.take (d.length + 1) = d ++ [47] := by
 constructor
 ·intro h
  rw [h, List.take_append, List.take_of_length_le (by omega), show d.length + 1 - d.length = 1 by omega]; rfl
 ·intro h
  have h1 := List.take_append_drop (d.length + 1) p
  rw [h, List.append_assoc] at h1
  exact h1.symm
--? glob_Under
theorem rUnder_is (p d : ByteArray) : codesearchref02_Under.f p d = some (underP p d) := by
 rw [codesearchref02_Under.f, underP, toList_bl]
 by_cases h0 : bl d = []
 ·rw [if_pos h0, decide_eq_true h0, Bool.true_or]
 rw [if_neg h0, decide_eq_false h0, Bool.false_or]
 by_cases h1 : (p.size : Int) > (d.size : Int)
 ·have hlt : d.size < (bl p).length := by rw [bl_len]; omega
  rw [if_pos h1, if_pos (by omega), if_pos (by omega), toList_bl, bl_ext, List.drop_zero, Nat.sub_zero, Int.toNat_natCast]
  have ht : (bl p).take (d.size + 1) = (bl p).take d.size ++ [(bl p)[d.size]] := List.take_succ_eq_append_getElem hlt
  by_cases h2 : (bl p).take d.size = bl d
  ·rw [if_pos h2, if_pos (by omega), bt_bl p d.size hlt]
   congr 1
   by_cases h3 : (bl p)[d.size] = 47
   ·rw [show (((bl p)[d.size].toNat : Int) == 47) = true from beq_iff_eq.2 ((u8_eq _ 47 (by omega)).2 h3)]
    symm
    rw [decide_eq_true_iff]
    refine under_iff.2 ?_
    rw [bl_len, ht, h2, h3]
   ·rw [show (((bl p)[d.size].toNat : Int) == 47) = false from beq_eq_false_iff_ne.2 (fun e => h3 ((u8_eq _ 47 (by omega)).1 e))]
    symm
    rw [decide_eq_false_iff_not]
    intro e
    have e2 := under_iff.1 e
    rw [bl_len, ht, h2] at e2
    exact h3 (by simpa using List.append_cancel_left e2)
  ·rw [if_neg h2]
   congr 1
   symm
   rw [decide_eq_false_iff_not]
   intro e
   have e2 := under_iff.1 e
   rw [bl_len, ht] at e2
   exact h2 (List.append_inj e2 (by rw [List.length_take, bl_len, bl_len]; rw [bl_len] at hlt; omega)).1
 ·rw [if_neg h1]
  congr 1
  symm
  rw [decide_eq_false_iff_not]
  intro e
  have h2 := congrArg List.length e
  rw [List.length_append, List.length_cons, bl_len, bl_len, List.length_drop, bl_len] at h2
  omega

abbrev FS := List S45
theorem rdF_nat (l : FS) (i : Nat) (h : i < l.length) : rd_T45 l (i : Int) = l[i] := by
 simp [rd_T45, List.getD_eq_getElem?_getD, List.getElem?_eq_getElem h]
theorem less_iff (a b : ByteArray) : (Op.bytesLess a.toList b.toList = true) ↔ bl a < bl b := by
 rw [bytesLess_eq, toList_bl, toList_bl, decide_eq_true_iff]
def anyUnder (l : FS) (i : Nat) (k : Nat) : Bool := (List.range (l.length - k)).any fun q => decide (k + q ≠ i) && underP (l.getD i ⟨⟨#[]⟩, 0⟩).f0 (l.getD (k + q) ⟨⟨#[]⟩, 0⟩).f0
theorem anyUnder_end (l : FS) (i k : Nat) (h : l.length ≤ k) : anyUnder l i k = false := by
 rw [anyUnder, Nat.sub_eq_zero_of_le h]; rfl
theorem getD_at (l : FS) (i : Nat) (h : i < l.length) : l.getD i ⟨⟨#[]⟩, 0⟩ = l[i] := by
 rw [List.getD_eq_getElem?_getD, List.getElem?_eq_getElem h]; rfl
theorem anyUnder_step (l : FS) (i k : Nat) (hi : i < l.length) (h : k < l.length) : anyUnder l i k = ((decide (k ≠ i) && underP l[i].f0 l[k].f0) || anyUnder l i (k + 1)) := by
 rw [anyUnder, anyUnder, show l.length - k = (l.length - (k + 1)) + 1 by omega, List.range_succ_eq_map, List.any_cons, Nat.add_zero, getD_at l i hi, getD_at l k h, List.any_map]
 congr 1
 apply List.any_congr rfl
 intro q
 simp only [Function.comp]
 rw [show k + (q + 1) = k + 1 + q by omega]
def errAt (l : FS) (i : Nat) : Int :=
 if validP (l.getD i ⟨⟨#[]⟩, 0⟩).f0 = false then 3
 else if (l.getD i ⟨⟨#[]⟩, 0⟩).f1 < 1 ∨ (l.getD i ⟨⟨#[]⟩, 0⟩).f1 > 9999 then 2
 else if 0 < i ∧ ¬ bl (l.getD (i - 1) ⟨⟨#[]⟩, 0⟩).f0 < bl (l.getD i ⟨⟨#[]⟩, 0⟩).f0 then 7
 else if anyUnder l i 0 = true then 14 else 0
def errFrom (l : FS) : Nat → Nat → Int
 | 0, _ => 0
 | d + 1, i => if errAt l i = 0 then errFrom l d (i + 1) else errAt l i
def rightM (l : FS) : Int := if l.length > 32 then 4 else errFrom l l.length 0
theorem errAt_at (l : FS) (i : Nat) (hi : i < l.length) : errAt l i = if validP l[i].f0 = false then 3 else if l[i].f1 < 1 ∨ l[i].f1 > 9999 then 2 else if 0 < i ∧ ¬ bl (l[i - 1]'(by omega)).f0 < bl l[i].f0 then 7 else if anyUnder l i 0 = true then 14 else 0 := by
 rw [errAt, getD_at l i hi, getD_at l (i - 1) (by omega)]
theorem rR_l1 (l : FS) (i : Nat) (hi : i < l.length) (hl : l.length ≤ 100000) (r : Int) (hr : Ev (fun k => codesearchref25_Right.l0 k l ((i + 1 : Nat) : Int)) r) :
  ∀ d (j : Nat), j + d = l.length → Ev (fun k => codesearchref25_Right.l1 k l (i : Int) (j : Int)) (if anyUnder l i j = true then 14 else r) := by
 intro d
 have hw : ∀ j : Nat, j ≤ 100000 → wrap64 ((j : Int) + 1) = ((j + 1 : Nat) : Int) := fun j hj => by rw [w64 (by omega) (by omega)]; rfl
 induction d with
 | zero =>
  intro j hj
  rw [anyUnder_end l i j (by omega), if_neg (by decide)]
  refine Ev.step (fun k => ?_) hr
  rw [codesearchref25_Right.l1, if_neg (by omega), hw i (by omega)]
 | succ d ih =>
  intro j hj
  have hlt : j < l.length := by omega
  rw [anyUnder_step l i j hi hlt]
  refine Ev.step (fun k => by rw [codesearchref25_Right.l1, if_pos (by omega), hw j (by omega)]) ?_
  by_cases h : j = i
  ·rw [decide_eq_false (not_not_intro h), Bool.false_and, Bool.false_or]
   exact Ev.ite_pos (by omega) (ih (j + 1) (by omega))
  ·rw [decide_eq_true h, Bool.true_and]
   refine Ev.ite_neg (by omega) (Ev.ite_pos (by omega) (Ev.ite_pos (by omega) (Ev.ite_pos (by omega) ?_)))
   rw [rdF_nat l j hlt, rdF_nat l i hi]
   refine Ev.bind_eq (rUnder_is l[i].f0 l[j].f0) ?_
   by_cases h2 : underP l[i].f0 l[j].f0 = true
   ·rw [h2]
    exact Ev.ite_pos rfl (Ev.now _)
   ·rw [Bool.eq_false_iff.2 h2, Bool.false_or]
    exact Ev.ite_neg (by simp) (ih (j + 1) (by omega))
theorem rR_l0 (l : FS) (hl : l.length ≤ 100000) : ∀ d (i : Nat), i + d = l.length → Ev (fun k => codesearchref25_Right.l0 k l (i : Int)) (errFrom l d i) := by
 intro d
 induction d with
 | zero =>
  intro i hi
  refine Ev.step (f := fun _ => some 0) (fun k => ?_) (Ev.now _)
  rw [codesearchref25_Right.l0, if_neg (by omega)]
 | succ d ih =>
  intro i hi
  have hlt : i < l.length := by omega
  have hn := ih (i + 1) (by omega)
  rw [errFrom, errAt_at l i hlt]
  refine Ev.step (fun k => by rw [codesearchref25_Right.l0, if_pos (by omega), if_pos (by omega), rdF_nat l i hlt]) (Ev.bind (rValidPath_is _) ?_)
  by_cases h1 : validP l[i].f0 = false
  ·rw [h1, if_pos rfl, if_neg (by decide)]
   exact Ev.ite_neg (by decide) (Ev.now _)
  have h1' : validP l[i].f0 = true := by simpa using h1
  rw [h1', if_neg (show ¬ (true = false) by decide)]
  refine Ev.ite_pos rfl ?_
  by_cases h2 : l[i].f1 < 1 ∨ l[i].f1 > 9999
  ·rw [if_pos h2, if_neg (by decide)]
   have hj : Ev (fun k => codesearchref25_Right.j1 k l (i : Int) true) 2 := by
    refine Ev.step (f := fun _ => some 2) (fun k => ?_) (Ev.now _)
    rw [codesearchref25_Right.j1, if_pos rfl]
   rcases h2 with h2 | h2
   ·exact Ev.ite_pos h2 hj
   ·refine Ev.ite_neg (by omega) ?_
    rw [decide_eq_true h2]
    exact hj
  rw [if_neg h2]
  rw [not_or] at h2
  refine Ev.ite_neg h2.1 ?_
  rw [decide_eq_false h2.2]
  refine Ev.step (fun k => by rw [codesearchref25_Right.j1, if_neg (by decide)]) ?_
  have hj2 : Ev (fun k => codesearchref25_Right.j2 k l (i : Int) false) (if (if anyUnder l i 0 = true then (14 : Int) else 0) = 0 then errFrom l d (i + 1) else if anyUnder l i 0 = true then 14 else 0) := by
   refine Ev.step (fun k => by rw [codesearchref25_Right.j2, if_neg (by decide)]) ?_
   have := rR_l1 l i hlt hl _ hn l.length 0 (by omega)
   by_cases h4 : anyUnder l i 0 = true
   ·rw [if_pos h4] at this ⊢
    exact this
   ·rw [if_neg h4] at this ⊢
    exact this
  by_cases h3 : 0 < i
  ·have hw : wrap64 ((i : Int) - 1) = ((i - 1 : Nat) : Int) := by rw [w64 (by omega) (by omega)]; omega
   refine Ev.ite_pos (by omega) (Ev.ite_pos (by omega) (Ev.ite_pos (by omega) ?_))
   rw [hw]
   refine Ev.ite_pos (by omega) (Ev.ite_pos (by omega) ?_)
   rw [rdF_nat l (i - 1) (by omega), rdF_nat l i hlt]
   by_cases h5 : bl l[i - 1].f0 < bl l[i].f0
   ·rw [if_neg (show ¬ (0 < i ∧ ¬ bl (l[i - 1]'(by omega)).f0 < bl l[i].f0) from fun h => h.2 h5), (less_iff _ _).2 h5, Bool.not_true]
    exact hj2
   ·rw [if_pos (show 0 < i ∧ ¬ bl (l[i - 1]'(by omega)).f0 < bl l[i].f0 from ⟨h3, h5⟩), if_neg (show ¬ (7 : Int) = 0 by decide), Bool.eq_false_iff.2 (fun h => h5 ((less_iff _ _).1 h)), Bool.not_false]
    refine Ev.step (f := fun _ => some 7) (fun k => ?_) (Ev.now _)
    rw [codesearchref25_Right.j2, if_pos rfl]
  ·rw [if_neg (show ¬ (0 < i ∧ ¬ bl (l[i - 1]'(by omega)).f0 < bl l[i].f0) from fun h => h3 h.1)]
   exact Ev.ite_neg (by omega) hj2
theorem rRight_is (l : FS) : Ev (fun k => codesearchref25_Right.f k l) (rightM l) := by
 by_cases h : (l.length : Int) > 32
 ·refine Ev.congr (fun k => ?_) (Ev.now _)
  rw [codesearchref25_Right.f, if_pos h, rightM, if_pos (by omega)]
 ·refine Ev.congr (fun k => by rw [codesearchref25_Right.f, if_neg h]) ?_
  rw [rightM, if_neg (by omega)]
  exact rR_l0 l (by omega) l.length 0 (by omega)
def IncF (l : FS) : Prop := l.Pairwise fun a b => bl a.f0 < bl b.f0
theorem errFrom_zero {l : FS} : ∀ {d i : Nat}, errFrom l d i = 0 → ∀ j, i ≤ j → j < i + d → errAt l j = 0
 | 0, i, _, j, h1, h2 => by omega
 | d + 1, i, h, j, h1, h2 => by
  rw [errFrom] at h
  by_cases e : errAt l i = 0
  ·rw [if_pos e] at h
   rcases Nat.lt_or_ge i j with h3 | h3
   ·exact errFrom_zero h j h3 (by omega)
   ·obtain rfl : i = j := by omega
    exact e
  ·rw [if_neg e] at h; exact absurd h e
theorem errAt_zero {l : FS} {i : Nat} (hi : i < l.length) (h : errAt l i = 0) : validP l[i].f0 = true ∧ 1 ≤ l[i].f1 ∧ l[i].f1 ≤ 9999 ∧ (0 < i → bl (l[i - 1]'(by omega)).f0 < bl l[i].f0) ∧ anyUnder l i 0 = false := by
 rw [errAt_at l i hi] at h
 by_cases h1 : validP l[i].f0 = false
 ·rw [if_pos h1] at h; omega
 rw [if_neg h1] at h
 by_cases h2 : l[i].f1 < 1 ∨ l[i].f1 > 9999
 ·rw [if_pos h2] at h; omega
 rw [if_neg h2] at h
 by_cases h3 : 0 < i ∧ ¬ bl (l[i - 1]'(by omega)).f0 < bl l[i].f0
 ·rw [if_pos h3] at h; omega
 rw [if_neg h3] at h
 by_cases h4 : anyUnder l i 0 = true
 ·rw [if_pos h4] at h; omega
 refine ⟨by simpa using h1, by omega, by omega, fun hp => ?_, by simpa using h4⟩
 rcases Classical.em (bl (l[i - 1]'(by omega)).f0 < bl l[i].f0) with e | e
 ·exact e
 ·exact absurd ⟨hp, e⟩ h3
structure Tree (l : FS) : Prop where
 inc : IncF l
 len : l.length ≤ 32
 size : ∀ f ∈ l, f.f0.size ≤ 60
 blob : ∀ f ∈ l, 1 ≤ f.f1 ∧ f.f1 ≤ 9999
theorem tree_of {l : FS} (h : rightM l = 0) : Tree l := by
 unfold rightM at h
 by_cases hl : l.length > 32
 ·rw [if_pos hl] at h; omega
 rw [if_neg hl] at h
 have ha : ∀ i (hi : i < l.length), _ := fun i hi => errAt_zero hi (errFrom_zero h i (Nat.zero_le _) (by omega))
 refine ⟨?_, by omega, fun f hf => ?_, fun f hf => ?_⟩
 ·have adj : ∀ d i (hi : i + d + 1 < l.length), bl (l[i]'(by omega)).f0 < bl (l[i + d + 1]'hi).f0 := by
   intro d
   induction d with
   | zero => intro i hi; exact (ha (i + 1) hi).2.2.2.1 (by omega)
   | succ d ih =>
    intro i hi
    exact List.lt_trans (ih i (by omega)) ((ha (i + d + 1 + 1) hi).2.2.2.1 (by omega))
  rw [IncF, List.pairwise_iff_getElem]
  intro i j hi hj hij
  have := adj (j - i - 1) i (by omega)
  simp only [show i + (j - i - 1) + 1 = j by omega] at this
  exact this
 ·obtain ⟨i, hi, rfl⟩ := List.mem_iff_getElem.1 hf
  have := (ha i hi).1
  rw [validP, Bool.and_eq_true, decide_eq_true_iff] at this
  exact this.1
 ·obtain ⟨i, hi, rfl⟩ := List.mem_iff_getElem.1 hf
  exact ⟨(ha i hi).2.1, (ha i hi).2.2.1⟩

theorem trees_is (a b c : FS) : Ev (fun k => codesearchlaw25_trees.f k a b c) (decide (rightM a = 0 ∧ rightM b = 0 ∧ rightM c = 0)) := by
 refine Ev.bind (rRight_is a) ?_
 by_cases h1 : rightM a = 0
 ·refine Ev.ite_pos h1 (Ev.bind (rRight_is b) ?_)
  by_cases h2 : rightM b = 0
  ·refine Ev.ite_pos h2 (Ev.bind (rRight_is c) ?_)
   refine Ev.congr (fun k => ?_) (Ev.now _)
   by_cases h3 : rightM c = 0
   ·rw [beq_iff_eq.2 h3, decide_eq_true ⟨h1, h2, h3⟩]
   ·rw [beq_eq_false_iff_ne.2 h3, decide_eq_false (fun h => h3 h.2.2)]
  ·rw [decide_eq_false (fun h => h2 h.2.1)]
   exact Ev.ite_neg h2 (Ev.now _)
 ·rw [decide_eq_false (fun h => h1 h.1)]
  exact Ev.ite_neg h1 (Ev.now _)

abbrev SF := S45
abbrev SC := S47
theorem w1 (i : Nat) (h : i ≤ 1000000000) : wrap64 ((i : Int) + 1) = ((i + 1 : Nat) : Int) := by rw [w64 (by omega) (by omega)]; rfl
instance decSF : DecidableEq SF := fun a b => if h : a.f0 = b.f0 ∧ a.f1 = b.f1 then isTrue (by obtain ⟨a0, a1⟩ := a; obtain ⟨b0, b1⟩ := b; obtain ⟨rfl, rfl⟩ := h; rfl) else isFalse (fun e => h (by rw [e]; exact ⟨rfl, rfl⟩))
def blobL : FS → ByteArray → Int
 | [], _ => 0
 | f :: l, s => if f.f0 = s then f.f1 else blobL l s
def thereL (l : FS) (s : ByteArray) : Bool := l.any fun f => decide (f.f0 = s)
theorem Get_is (l : FS) (s : ByteArray) (hl : l.length ≤ 1000000) : Ev (fun k => tree_Get.f k l s) (blobL l s, thereL l s) := by
 have key : ∀ d (i : Nat), i + d = l.length → Ev (fun k => tree_Get.l0 k s l (l.length : Int) (i : Int)) (blobL (l.drop i) s, thereL (l.drop i) s) := by
  intro d
  induction d with
  | zero =>
   intro i hi
   rw [List.drop_of_length_le (by omega)]
   refine Ev.step (f := fun _ => some (0, false)) (fun k => ?_) (Ev.now _)
   rw [tree_Get.l0, if_neg (by omega)]
  | succ d ih =>
   intro i hi
   have hlt : i < l.length := by omega
   rw [drop_cons l i hlt, thereL, List.any_cons, blobL]
   refine Ev.step (fun k => by rw [tree_Get.l0, if_pos (show (i : Int) < (l.length : Int) by omega), if_pos (by omega), if_pos (show (i : Int) < (l.length : Int) by omega), rdF_nat l i hlt, w1 i (by omega)]) ?_
   by_cases h : l[i].f0 = s
   ·rw [decide_eq_true h, Bool.true_or, if_pos h]
    exact Ev.ite_pos (toList_eq_iff.2 h) (Ev.now _)
   ·rw [decide_eq_false h, Bool.false_or, if_neg h]
    exact Ev.ite_neg (fun e => h (toList_eq_iff.1 e)) (ih (i + 1) (by omega))
 exact key l.length 0 (by omega)
theorem Files_is (l m : FS) (hl : l.length ≤ 1000000) : Ev (fun k => codesearchref25_Files.f k l m) (decide (l = m)) := by
 by_cases hlen : (l.length : Int) = (m.length : Int)
 ·have key : ∀ d (i : Nat), i + d = l.length → Ev (fun k => codesearchref25_Files.l0 k l m (i : Int)) (decide (l.drop i = m.drop i)) := by
   intro d
   induction d with
   | zero =>
    intro i hi
    rw [List.drop_of_length_le (by omega), List.drop_of_length_le (by omega)]
    refine Ev.step (f := fun _ => some true) (fun k => ?_) (Ev.now _)
    rw [codesearchref25_Files.l0, if_neg (by omega)]
   | succ d ih =>
    intro i hi
    have hlt : i < l.length := by omega
    have hlt2 : i < m.length := by omega
    rw [drop_cons l i hlt, drop_cons m i hlt2]
    refine Ev.step (fun k => by rw [codesearchref25_Files.l0, if_pos (show (i : Int) < (l.length : Int) by omega), if_pos (by omega), if_pos (show (i : Int) < (m.length : Int) by omega), rdF_nat l i hlt, rdF_nat m i hlt2, w1 i (by omega)]) ?_
    by_cases h : l[i] = m[i]
    ·rw [decide_eq_decide.2 (show l[i] :: l.drop (i + 1) = m[i] :: m.drop (i + 1) ↔ l.drop (i + 1) = m.drop (i + 1) by rw [List.cons.injEq]; exact ⟨fun e => e.2, fun e => ⟨h, e⟩⟩)]
     refine Ev.ite_neg ?_ (ih (i + 1) (by omega))
     rw [h]; simp
    ·rw [decide_eq_false (show ¬ l[i] :: l.drop (i + 1) = m[i] :: m.drop (i + 1) by rw [List.cons.injEq]; exact fun e => h e.1)]
     refine Ev.ite_pos ?_ (Ev.now _)
     have h2 : ¬ (l[i].f0 = m[i].f0 ∧ l[i].f1 = m[i].f1) := fun e => h (by
      generalize l[i] = a at e; generalize m[i] = b at e
      obtain ⟨a0, a1⟩ := a; obtain ⟨b0, b1⟩ := b
      obtain ⟨rfl, rfl⟩ := e; rfl)
     by_cases e0 : l[i].f0 = m[i].f0
     ·have e1 : ¬ l[i].f1 = m[i].f1 := fun e => h2 ⟨e0, e⟩
      simp [e1]
     ·have e1 : ¬ l[i].f0.toList = m[i].f0.toList := fun e => e0 (toList_eq_iff.1 e)
      simp [e1]
  refine Ev.congr (fun k => by rw [codesearchref25_Files.f, if_pos hlen]; rfl) (key l.length 0 (by omega))
 ·rw [decide_eq_false (fun e => hlen (by rw [e]))]
  refine Ev.congr (fun k => ?_) (Ev.now _)
  rw [codesearchref25_Files.f, if_neg hlen]
theorem Changes_self (l : List SC) (hl : l.length ≤ 1000000) : Ev (fun k => codesearchref25_Changes.f k l l) true := by
 have key : ∀ d (i : Nat), i + d = l.length → Ev (fun k => codesearchref25_Changes.l0 k l l (i : Int)) true := by
  intro d
  induction d with
  | zero =>
   intro i hi
   refine Ev.step (f := fun _ => some true) (fun k => ?_) (Ev.now _)
   rw [codesearchref25_Changes.l0, if_neg (by omega)]
  | succ d ih =>
   intro i hi
   have hlt : i < l.length := by omega
   refine Ev.step (fun k => by rw [codesearchref25_Changes.l0, if_pos (show (i : Int) < (l.length : Int) by omega), if_pos (by omega), if_pos (show (i : Int) < (l.length : Int) by omega), w1 i (by omega)]) ?_
   exact Ev.ite_neg (by simp) (ih (i + 1) (by omega))
 exact Ev.congr (fun k => by rw [codesearchref25_Changes.f, if_pos rfl]; rfl) (key l.length 0 (by omega))
theorem Strings_self (l : List ByteArray) (hl : l.length ≤ 1000000) : Ev (fun k => codesearchref01_Strings.f k l l) true := by
 have key : ∀ d (i : Nat), i + d = l.length → Ev (fun k => codesearchref01_Strings.l0 k l l (i : Int)) true := by
  intro d
  induction d with
  | zero =>
   intro i hi
   refine Ev.step (f := fun _ => some true) (fun k => ?_) (Ev.now _)
   rw [codesearchref01_Strings.l0, if_neg (by omega)]
  | succ d ih =>
   intro i hi
   have hlt : i < l.length := by omega
   refine Ev.step (fun k => by rw [codesearchref01_Strings.l0, if_pos (show (i : Int) < (l.length : Int) by omega), if_pos (by omega), if_pos (show (i : Int) < (l.length : Int) by omega), w1 i (by omega)]) ?_
   exact Ev.ite_pos rfl (ih (i + 1) (by omega))
 exact Ev.congr (fun k => by rw [codesearchref01_Strings.f, if_pos rfl]; rfl) (key l.length 0 (by omega))
def setGo (p : ByteArray) (b : Int) : FS → Bool → FS
 | [], inn => if inn = true then [] else [⟨p, b⟩]
 | f :: l, inn => if inn = false ∧ ¬ bl f.f0 < bl p then ⟨p, b⟩ :: (if f.f0 = p then setGo p b l true else f :: setGo p b l true) else if f.f0 = p then setGo p b l inn else f :: setGo p b l inn
def setM (l : FS) (p : ByteArray) (b : Int) : FS := setGo p b l (b == 0)
theorem setGo_true (p : ByteArray) (b : Int) : ∀ l : FS, setGo p b l true = l.filter fun f => decide (f.f0 ≠ p)
 | [] => rfl
 | f :: l => by
  rw [setGo, if_neg (fun h => by cases h.1), setGo_true p b l]
  by_cases e : f.f0 = p
  ·rw [if_pos e, List.filter_cons_of_neg (by simpa using e)]
  ·rw [if_neg e, List.filter_cons_of_pos (by simpa using e)]
theorem mem_setGo (p : ByteArray) (b : Int) (x : SF) : ∀ l : FS, x ∈ setGo p b l false ↔ x = ⟨p, b⟩ ∨ (x ∈ l ∧ x.f0 ≠ p)
 | [] => by rw [setGo, if_neg (by decide)]; simp
 | f :: l => by
  rw [setGo]
  by_cases h : bl f.f0 < bl p
  ·have hne : f.f0 ≠ p := fun e => by rw [e] at h; exact List.lt_irrefl _ h
   rw [if_neg (fun e => e.2 h), if_neg hne, List.mem_cons, List.mem_cons, mem_setGo p b x l]
   constructor
   ·rintro (rfl | h1 | ⟨h1, h2⟩)
    ·exact .inr ⟨.inl rfl, hne⟩
    ·exact .inl h1
    ·exact .inr ⟨.inr h1, h2⟩
   ·rintro (h1 | ⟨h1 | h1, h2⟩)
    ·exact .inr (.inl h1)
    ·exact .inl h1
    ·exact .inr (.inr ⟨h1, h2⟩)
  ·rw [if_pos ⟨rfl, h⟩, setGo_true, List.mem_cons]
   by_cases e : f.f0 = p
   ·rw [if_pos e, List.mem_filter, List.mem_cons]
    constructor
    ·rintro (h1 | ⟨h1, h2⟩)
     ·exact .inl h1
     ·exact .inr ⟨.inr h1, of_decide_eq_true h2⟩
    ·rintro (h1 | ⟨h1 | h1, h2⟩)
     ·exact .inl h1
     ·rw [h1] at h2; exact absurd e h2
     ·exact .inr ⟨h1, decide_eq_true h2⟩
   ·rw [if_neg e, List.mem_cons, List.mem_filter, List.mem_cons]
    constructor
    ·rintro (h1 | rfl | ⟨h1, h2⟩)
     ·exact .inl h1
     ·exact .inr ⟨.inl rfl, e⟩
     ·exact .inr ⟨.inr h1, of_decide_eq_true h2⟩
    ·rintro (h1 | ⟨h1 | h1, h2⟩)
     ·exact .inl h1
     ·exact .inr (.inl h1)
     ·exact .inr (.inr ⟨h1, decide_eq_true h2⟩)
theorem lt_of_not {a b : ByteArray} (h : ¬ bl a < bl b) (hne : a ≠ b) : bl b < bl a := lt_of_le_ne (List.not_lt.1 h) (fun e => hne (bl_inj e).symm)
theorem setGo_inc (p : ByteArray) (b : Int) : ∀ {l : FS}, IncF l → IncF (setGo p b l false)
 | [], _ => by rw [setGo, if_neg (by decide)]; exact List.pairwise_singleton _ _
 | f :: l, h => by
  have h1 := List.pairwise_cons.1 h
  rw [setGo]
  by_cases e : bl f.f0 < bl p
  ·have hne : f.f0 ≠ p := fun e2 => by rw [e2] at e; exact List.lt_irrefl _ e
   rw [if_neg (fun e2 => e2.2 e), if_neg hne]
   refine List.pairwise_cons.2 ⟨fun x hx => ?_, setGo_inc p b h1.2⟩
   rcases (mem_setGo p b x l).1 hx with rfl | ⟨h2, _⟩
   ·exact e
   ·exact h1.1 x h2
  ·rw [if_pos ⟨rfl, e⟩, setGo_true]
   have hall : ∀ x ∈ f :: l, x.f0 ≠ p → bl p < bl x.f0 := by
    intro x hx hne
    rcases List.mem_cons.1 hx with rfl | hx
    ·exact lt_of_not e hne
    ·by_cases e2 : f.f0 = p
     ·rw [← e2]; exact h1.1 x hx
     ·exact List.lt_trans (lt_of_not e e2) (h1.1 x hx)
   have hf : IncF (l.filter fun f => decide (f.f0 ≠ p)) := List.Pairwise.filter _ h1.2
   by_cases e2 : f.f0 = p
   ·rw [if_pos e2]
    refine List.pairwise_cons.2 ⟨fun x hx => ?_, hf⟩
    rw [List.mem_filter] at hx
    exact hall x (List.mem_cons_of_mem _ hx.1) (of_decide_eq_true hx.2)
   ·rw [if_neg e2]
    refine List.pairwise_cons.2 ⟨fun x hx => ?_, List.pairwise_cons.2 ⟨fun x hx => ?_, hf⟩⟩
    ·rcases List.mem_cons.1 hx with rfl | hx
     ·exact hall x List.mem_cons_self e2
     ·rw [List.mem_filter] at hx
      exact hall x (List.mem_cons_of_mem _ hx.1) (of_decide_eq_true hx.2)
    ·rw [List.mem_filter] at hx
     exact h1.1 x hx.1
theorem mem_setM {l : FS} {p : ByteArray} {b : Int} (x : SF) : x ∈ setM l p b ↔ (b ≠ 0 ∧ x = ⟨p, b⟩) ∨ (x ∈ l ∧ x.f0 ≠ p) := by
 unfold setM
 by_cases h : b = 0
 ·rw [beq_iff_eq.2 h, setGo_true, List.mem_filter]
  constructor
  ·rintro ⟨h1, h2⟩; exact .inr ⟨h1, of_decide_eq_true h2⟩
  ·rintro (⟨h1, _⟩ | ⟨h1, h2⟩)
   ·exact absurd h h1
   ·exact ⟨h1, decide_eq_true h2⟩
 ·rw [beq_eq_false_iff_ne.2 h, mem_setGo]
  constructor
  ·rintro (h1 | h1)
   ·exact .inl ⟨h, h1⟩
   ·exact .inr h1
  ·rintro (⟨_, h1⟩ | h1)
   ·exact .inl h1
   ·exact .inr h1
theorem setM_inc {l : FS} (h : IncF l) (p : ByteArray) (b : Int) : IncF (setM l p b) := by
 unfold setM
 by_cases e : b = 0
 ·rw [beq_iff_eq.2 e, setGo_true]; exact List.Pairwise.filter _ h
 ·rw [beq_eq_false_iff_ne.2 e]; exact setGo_inc p b h
theorem inc_of {l : FS} (h : IncF l) : Inc (l.map (·.f0)) := List.pairwise_map.2 h
theorem blobL_none {l : FS} {s : ByteArray} (h : ∀ f ∈ l, f.f0 ≠ s) : blobL l s = 0 := by
 induction l with
 | nil => rfl
 | cons f l ih => rw [blobL, if_neg (h f List.mem_cons_self), ih (fun g hg => h g (List.mem_cons_of_mem _ hg))]
theorem blobL_mem {l : FS} (hi : IncF l) {f : SF} (hf : f ∈ l) : blobL l f.f0 = f.f1 := by
 induction l with
 | nil => cases hf
 | cons a l ih =>
  have h1 := List.pairwise_cons.1 hi
  rw [blobL]
  rcases List.mem_cons.1 hf with rfl | hf
  ·rw [if_pos rfl]
  ·rw [if_neg (fun e => by have := h1.1 f hf; rw [e] at this; exact List.lt_irrefl _ this)]
   exact ih h1.2 hf
theorem mget_inc {l : FS} (hi : IncF l) (s : ByteArray) : (∀ f ∈ l, f.f0 = s → mget (contsM l) s = some f.f1) ∧ ((∀ f ∈ l, f.f0 ≠ s) → mget (contsM l) s = none) := by
 have key : ∀ (l : FS) (m : MP), IncF l → (∀ f ∈ l, f.f0 = s → mget (l.foldl (fun m x => mput m x.f0 x.f1) m) s = some f.f1) ∧ ((∀ f ∈ l, f.f0 ≠ s) → mget (l.foldl (fun m x => mput m x.f0 x.f1) m) s = mget m s) := by
  intro l
  induction l with
  | nil => intro m _; exact ⟨fun f hf => (by cases hf), fun _ => rfl⟩
  | cons a l ih =>
   intro m hi
   have h1 := List.pairwise_cons.1 hi
   obtain ⟨i1, i2⟩ := ih (mput m a.f0 a.f1) h1.2
   rw [List.foldl_cons]
   refine ⟨fun f hf e => ?_, fun hn => ?_⟩
   ·rcases List.mem_cons.1 hf with rfl | hf
    ·rw [i2 (fun g hg e2 => by have := h1.1 g hg; rw [e, e2] at this; exact List.lt_irrefl _ this), mget_put, if_pos e]
    ·exact i1 f hf e
   ·rw [i2 (fun g hg => hn g (List.mem_cons_of_mem _ hg)), mget_put, if_neg (hn a List.mem_cons_self)]
 exact key l [] hi
theorem val_blob {l : FS} (hi : IncF l) (s : ByteArray) : (mget (contsM l) s).getD 0 = blobL l s := by
 obtain ⟨h1, h2⟩ := mget_inc hi s
 rcases Classical.em (∃ f ∈ l, f.f0 = s) with ⟨f, hf, e⟩ | hn
 ·rw [h1 f hf e, ← e, blobL_mem hi hf]; rfl
 ·rw [h2 (fun f hf e => hn ⟨f, hf, e⟩), blobL_none (fun f hf e => hn ⟨f, hf, e⟩)]; rfl

def ones (l : FS) : FS := l.foldl (fun a f => setM a f.f0 1) []
theorem ones_prop (l : FS) : IncF (ones l) ∧ ∀ s, (∃ x ∈ ones l, x.f0 = s) ↔ ∃ f ∈ l, f.f0 = s := by
 have key : ∀ (l a : FS), IncF a → IncF (l.foldl (fun a f => setM a f.f0 1) a) ∧ ∀ s, (∃ x ∈ l.foldl (fun a f => setM a f.f0 1) a, x.f0 = s) ↔ (∃ x ∈ a, x.f0 = s) ∨ ∃ f ∈ l, f.f0 = s := by
  intro l
  induction l with
  | nil => intro a ha; exact ⟨ha, fun s => by simp⟩
  | cons f l ih =>
   intro a ha
   obtain ⟨h1, h2⟩ := ih (setM a f.f0 1) (setM_inc ha _ _)
   rw [List.foldl_cons]
   refine ⟨h1, fun s => ?_⟩
   rw [h2 s]
   constructor
   ·rintro (⟨x, hx, e⟩ | ⟨g, hg, e⟩)
    ·rcases (mem_setM x).1 hx with ⟨_, rfl⟩ | ⟨h3, _⟩
     ·exact .inr ⟨f, List.mem_cons_self, e⟩
     ·exact .inl ⟨x, h3, e⟩
    ·exact .inr ⟨g, List.mem_cons_of_mem _ hg, e⟩
   ·rintro (⟨x, hx, e⟩ | ⟨g, hg, e⟩)
    ·by_cases e2 : x.f0 = f.f0
     ·exact .inl ⟨⟨f.f0, 1⟩, (mem_setM _).2 (.inl ⟨by decide, rfl⟩), by rw [← e, e2]⟩
     ·exact .inl ⟨x, (mem_setM _).2 (.inr ⟨hx, e2⟩), e⟩
    ·rcases List.mem_cons.1 hg with rfl | hg
     ·exact .inl ⟨⟨g.f0, 1⟩, (mem_setM _).2 (.inl ⟨by decide, rfl⟩), e⟩
     ·exact .inr ⟨g, hg, e⟩
 obtain ⟨h1, h2⟩ := key l [] List.Pairwise.nil
 exact ⟨h1, fun s => by rw [ones, h2 s]; simp⟩
theorem mem_paths (ls : List FS) (s : ByteArray) : s ∈ pathsM (ls.map contsM) ↔ ∃ l ∈ ls, ∃ f ∈ l, f.f0 = s := by
 rw [mem_pathsM]
 constructor
 ·rintro ⟨m, hm, h⟩
  obtain ⟨l, hl, rfl⟩ := List.mem_map.1 hm
  exact ⟨l, hl, (mget_conts l s).1 h⟩
 ·rintro ⟨l, hl, h⟩
  exact ⟨contsM l, List.mem_map.2 ⟨l, hl, rfl⟩, (mget_conts l s).2 h⟩
theorem pathsM_inc (ms : List MP) : Inc (pathsM ms) := uniqS_inc _
theorem pathsM_len3 (l0 l1 l2 : FS) (h0 : l0.length ≤ 100000) (h1 : l1.length ≤ 100000) (h2 : l2.length ≤ 100000) : (pathsM [contsM l0, contsM l1, contsM l2]).length ≤ 300000 := by
 have := pathsM_len [contsM l0, contsM l1, contsM l2] 100000 (by intro m hm; simp at hm; rcases hm with rfl | rfl | rfl <;> rw [contsM_len] <;> omega)
 simpa using this
theorem okFs_tree {l : FS} (h : Tree l) : okFs l = true := by
 rw [okFs, List.all_eq_true]
 intro f hf
 have h1 := h.size f hf
 have h2 := h.blob f hf
 rw [Bool.and_eq_true]
 refine ⟨decide_eq_true (by omega), ?_⟩
 rw [okI, Bool.and_eq_true, decide_eq_true_iff, decide_eq_true_iff]
 omega
theorem val_tree {l : FS} (h : Tree l) (s : ByteArray) : valM (contsM l) s = blobL l s := val_blob h.inc s
def pickL (o a b : FS) (s : ByteArray) : Int := if blobL a s = blobL o s then blobL b s else blobL a s
def clashL (o a b : FS) (s : ByteArray) : Bool := decide (blobL o s ≠ blobL a s) && (decide (blobL o s ≠ blobL b s) && decide (blobL a s ≠ blobL b s))
def mergeF (o a b : FS) : FS := ((pathsM [contsM o, contsM a, contsM b]).filter fun s => decide (pickL o a b s ≠ 0)).map fun s => ⟨s, pickL o a b s⟩
def mergeC (o a b : FS) : List ByteArray := (pathsM [contsM o, contsM a, contsM b]).filter (clashL o a b)
theorem mget_mergedL (x y z : MP) (ks : List ByteArray) (s : ByteArray) : (s ∈ ks → mget (mergedM x y z ks) s = some (pickM x y z s)) ∧ (s ∉ ks → mget (mergedM x y z ks) s = none) := by
 have key : ∀ l : List ByteArray, (s ∈ l → mget (l.map fun s => (s, pickM x y z s)) s = some (pickM x y z s)) ∧ (s ∉ l → mget (l.map fun s => (s, pickM x y z s)) s = none) := by
  intro l
  induction l with
  | nil => exact ⟨fun h => (by cases h), fun _ => rfl⟩
  | cons a l ih =>
   rw [List.map_cons, mget, List.mem_cons]
   by_cases e : a = s
   ·subst e; rw [if_pos rfl]; exact ⟨fun _ => rfl, fun h => absurd (Or.inl rfl) h⟩
   ·rw [if_neg e]
    exact ⟨fun h => ih.1 (h.resolve_left (fun e2 => e e2.symm)), fun h => ih.2 (fun h2 => h (.inr h2))⟩
 have := key ks.reverse
 rw [List.mem_reverse, List.map_reverse] at this
 exact this
theorem isSome_mergedL (x y z : MP) (ks : List ByteArray) (s : ByteArray) : (mget (mergedM x y z ks) s).isSome = true ↔ s ∈ ks := by
 obtain ⟨h1, h2⟩ := mget_mergedL x y z ks s
 constructor
 ·intro h
  rcases Classical.em (s ∈ ks) with e | e
  ·exact e
  ·rw [h2 e] at h; cases h
 ·intro h; rw [h1 h]; rfl
theorem filesM_congr {m : MP} {ks : List ByteArray} (hk : Inc ks) (hm : ∀ s, (mget m s).isSome = true ↔ s ∈ ks) : filesM m = (ks.filter fun s => decide (valM m s ≠ 0)).map fun s => ⟨s, valM m s⟩ := by
 rw [filesM, show pathsM [m] = ks from inc_ext (pathsM_inc _) hk (fun s => by rw [mem_pathsM, ← hm s]; simp)]
theorem Merge_is {o a b : FS} (ho : Tree o) (ha : Tree a) (hb : Tree b) : tree_Merge.f o a b = some (mergeF o a b, mergeC o a b) := by
 have h0 := ho.len
 have h1 := ha.len
 have h2 := hb.len
 rw [tree_Merge.f, if_pos ⟨okFs_tree ho, okFs_tree ha, okFs_tree hb, by omega, by omega, by omega⟩]
 have hp : ∀ s, pickM (contsM o) (contsM a) (contsM b) s = pickL o a b s := fun s => by
  rw [pickM, pickL, val_tree ho, val_tree ha, val_tree hb]
 have hc : clashM (contsM o) (contsM a) (contsM b) = clashL o a b := by
  funext s
  rw [clashM, clashL, val_tree ho, val_tree ha, val_tree hb]
 rw [mergeF, mergeC, hc]
 generalize hks : pathsM [contsM o, contsM a, contsM b] = ks
 have hki : Inc ks := by rw [← hks]; exact pathsM_inc _
 congr 2
 rw [filesM_congr hki (fun s => isSome_mergedL _ _ _ ks s)]
 have hv : ∀ s ∈ ks, valM (mergedM (contsM o) (contsM a) (contsM b) ks) s = pickL o a b s := fun s hs => by
  rw [valM, (mget_mergedL _ _ _ ks s).1 hs, Option.getD_some, hp]
 rw [List.filter_congr (q := fun s => decide (pickL o a b s ≠ 0)) (fun s hs => by rw [hv s hs])]
 refine List.map_congr_left (fun s hs => ?_)
 rw [hv s (List.mem_filter.1 hs).1]

theorem held_is (l : FS) (s : ByteArray) (hl : l.length ≤ 1000000) : Ev (fun k => codesearchlaw25_held.f k l s) (blobL l s) := by
 have key : ∀ d (i : Nat), i + d = l.length → Ev (fun k => codesearchlaw25_held.l0 k l s (i : Int)) (blobL (l.drop i) s) := by
  intro d
  induction d with
  | zero =>
   intro i hi
   rw [List.drop_of_length_le (by omega)]
   refine Ev.step (f := fun _ => some 0) (fun k => ?_) (Ev.now _)
   rw [codesearchlaw25_held.l0, if_neg (by omega)]
  | succ d ih =>
   intro i hi
   have hlt : i < l.length := by omega
   rw [drop_cons l i hlt, blobL]
   refine Ev.step (fun k => by rw [codesearchlaw25_held.l0, if_pos (show (i : Int) < (l.length : Int) by omega), if_pos (by omega), rdF_nat l i hlt, w1 i (by omega)]) ?_
   by_cases h : l[i].f0 = s
   ·rw [if_pos h]
    exact Ev.ite_pos (toList_eq_iff.2 h) (Ev.now _)
   ·rw [if_neg h]
    exact Ev.ite_neg (fun e => h (toList_eq_iff.1 e)) (ih (i + 1) (by omega))
 exact key l.length 0 (by omega)

def pathsO (ms : List MP) : List ByteArray := (ones (ms.flatten.map fun p => (⟨p.1, 1⟩ : SF))).map (·.f0)
theorem pathsM_ones (ms : List MP) : pathsM ms = pathsO ms := by
 obtain ⟨h1, h2⟩ := ones_prop (ms.flatten.map fun p => (⟨p.1, 1⟩ : SF))
 refine inc_ext (pathsM_inc _) (inc_of h1) (fun s => ?_)
 rw [mem_pathsM, pathsO, List.mem_map, h2 s]
 constructor
 ·rintro ⟨m, hm, h⟩
  obtain ⟨p, hp, rfl⟩ := List.mem_map.1 ((mget_mem m s).1 h)
  exact ⟨⟨p.1, 1⟩, List.mem_map.2 ⟨p, List.mem_flatten.2 ⟨m, hm, hp⟩, rfl⟩, rfl⟩
 ·rintro ⟨f, hf, rfl⟩
  obtain ⟨p, hp, rfl⟩ := List.mem_map.1 hf
  obtain ⟨m, hm, hp⟩ := List.mem_flatten.1 hp
  exact ⟨m, hm, (mget_mem m p.1).2 (List.mem_map.2 ⟨p, hp, rfl⟩)⟩
def filesO (m : MP) : FS := ((pathsO [m]).filter fun s => decide (valM m s ≠ 0)).map fun s => ⟨s, valM m s⟩
theorem filesM_ones (m : MP) : filesM m = filesO m := by rw [filesM, pathsM_ones]; rfl
set_option maxRecDepth 100000 in
theorem al_apply1 : Ev (fun k => tree_Apply.f k [⟨⟨#[97]⟩, 1⟩, ⟨⟨#[98]⟩, 2⟩] [⟨⟨#[97]⟩, 5⟩, ⟨⟨#[98]⟩, 0⟩]) ([⟨⟨#[97]⟩, 5⟩], 0) := Ev.of (fun k => tree_Apply.mono _ _ k) (k := 60) (by simp only [tree_Apply.f, filesM_ones]; decide +kernel)
set_option maxRecDepth 100000 in
theorem al_apply2 : Ev (fun k => tree_Apply.f k [⟨⟨#[97]⟩, 1⟩, ⟨⟨#[98]⟩, 2⟩] [⟨⟨#[98]⟩, 0⟩, ⟨⟨#[98]⟩, 0⟩]) ([], 8) := Ev.of (fun k => tree_Apply.mono _ _ k) (k := 60) (by simp only [tree_Apply.f, filesM_ones]; decide +kernel)
set_option maxRecDepth 100000 in
theorem al_right1 : Ev (fun k => tree_Right.f k [⟨⟨#[97, 47, 98]⟩, 1⟩, ⟨⟨#[97, 46, 99]⟩, 2⟩]) 7 := Ev.of (fun k => tree_Right.mono _ k) (k := 60) (by decide +kernel)
set_option maxRecDepth 100000 in
theorem al_right2 : Ev (fun k => tree_Right.f k [⟨⟨#[97]⟩, 1⟩, ⟨⟨#[97, 47, 98]⟩, 2⟩]) 14 := Ev.of (fun k => tree_Right.mono _ k) (k := 60) (by decide +kernel)
set_option maxRecDepth 100000 in
theorem al_names1 : Ev (fun k => tree_Names.f k [⟨⟨#[97, 47, 120]⟩, 1⟩, ⟨⟨#[97, 47, 121, 47, 122]⟩, 1⟩, ⟨⟨#[98]⟩, 1⟩] ⟨#[]⟩) [⟨#[97]⟩, ⟨#[98]⟩] := Ev.of (fun k => tree_Names.mono _ _ k) (k := 60) (by simp only [tree_Names.f, pathsM_ones]; decide +kernel)
set_option maxRecDepth 100000 in
theorem al_names2 : Ev (fun k => tree_Names.f k [⟨⟨#[97, 47, 120]⟩, 1⟩, ⟨⟨#[97, 47, 121, 47, 122]⟩, 1⟩, ⟨⟨#[98]⟩, 1⟩] ⟨#[97]⟩) [⟨#[120]⟩, ⟨#[121]⟩] := Ev.of (fun k => tree_Names.mono _ _ k) (k := 60) (by simp only [tree_Names.f, pathsM_ones]; decide +kernel)
set_option maxRecDepth 100000 in
theorem al_under : Ev (fun k => tree_Under.f k [⟨⟨#[97, 47, 120]⟩, 1⟩, ⟨⟨#[97, 47, 121, 47, 122]⟩, 1⟩, ⟨⟨#[98]⟩, 1⟩] ⟨#[97]⟩) [⟨⟨#[97, 47, 120]⟩, 1⟩, ⟨⟨#[97, 47, 121, 47, 122]⟩, 1⟩] := Ev.of (fun k => tree_Under.mono _ _ k) (k := 60) (by decide +kernel)
set_option maxRecDepth 100000 in
theorem al_merge : tree_Merge.f [⟨⟨#[97]⟩, 1⟩, ⟨⟨#[98]⟩, 1⟩] [⟨⟨#[97]⟩, 2⟩, ⟨⟨#[98]⟩, 1⟩] [⟨⟨#[97]⟩, 3⟩, ⟨⟨#[99]⟩, 3⟩] = some ([⟨⟨#[97]⟩, 2⟩, ⟨⟨#[99]⟩, 3⟩], [⟨#[97]⟩]) := by simp only [tree_Merge.f, filesM_ones, pathsM_ones]; decide +kernel
set_option maxRecDepth 100000 in
theorem al_diff : tree_Diff.f [⟨⟨#[97]⟩, 1⟩, ⟨⟨#[98]⟩, 2⟩] [⟨⟨#[97]⟩, 5⟩] = some [⟨⟨#[97]⟩, 5⟩, ⟨⟨#[98]⟩, 0⟩] := by
 have e : diffM (contsM [⟨⟨#[97]⟩, 1⟩, ⟨⟨#[98]⟩, 2⟩]) (contsM [⟨⟨#[97]⟩, 5⟩]) = [⟨⟨#[97]⟩, 5⟩, ⟨⟨#[98]⟩, 0⟩] := by rw [diffM, pathsM_ones]; rfl
 rw [tree_Diff.f, e, if_pos (by decide +kernel)]
theorem alive25 : Ev (fun k => codesearchlaw25_alive.f k) true := by
 refine Ev.congr (fun k => by rw [codesearchlaw25_alive.f, Option.bind_some]) (Ev.bind al_apply1 (Ev.bind al_apply2 (Ev.ite_pos rfl (Ev.ite_pos rfl ?_))))
 refine Ev.bind (Files_is _ _ (by decide)) ?_
 rw [decide_eq_true rfl]
 first
 | refine Ev.step (fun k => by rw [codesearchlaw25_alive.j0, if_neg (by decide)]) ?_
 | refine Ev.ite_pos rfl ?_
 refine (Ev.bind al_right1 (Ev.ite_pos rfl (Ev.bind al_right2 ?_)))
 first
 | refine Ev.step (fun k => by rw [codesearchlaw25_alive.j1, if_neg (by decide), Option.bind_some]) ?_
 | refine Ev.ite_pos rfl (Ev.congr (fun k => by rw [Option.bind_some]) ?_)
 refine (Ev.bind al_names1 (Ev.bind (Strings_self [⟨#[97]⟩, ⟨#[98]⟩] (by decide)) (Ev.ite_pos rfl ?_)))
 refine Ev.bind al_names2 (Ev.bind (Strings_self [⟨#[120]⟩, ⟨#[121]⟩] (by decide)) (Ev.ite_pos rfl (Ev.bind al_under ?_)))
 first
 | refine Ev.step (fun k => by rw [codesearchlaw25_alive.j2, if_neg (by decide)]) ?_
 | refine Ev.ite_pos (by decide) ?_
 refine (Ev.bind (Get_is [⟨⟨#[97, 47, 120]⟩, 1⟩, ⟨⟨#[97, 47, 121, 47, 122]⟩, 1⟩, ⟨⟨#[98]⟩, 1⟩] ⟨#[98]⟩ (by decide)) (Ev.bind_eq al_merge (Ev.bind_eq al_diff (Ev.bind (Changes_self [⟨⟨#[97]⟩, 5⟩, ⟨⟨#[98]⟩, 0⟩] (by decide)) (Ev.ite_pos rfl ?_)))))
 refine Ev.ite_pos (by decide) ?_
 first
 | refine Ev.step (fun k => by rw [codesearchlaw25_alive.j3, if_neg (by decide)]) ?_
 | refine Ev.ite_pos (by decide) ?_
 refine (Ev.bind (Files_is _ _ (by decide)) ?_)
 rw [decide_eq_true rfl]
 exact Ev.ite_pos rfl (Ev.bind (Strings_self [⟨#[97]⟩] (by decide)) (Ev.now _))
end Go.Proofs.YtpnhamfodjfacaaDoor.Q
