/- Paths: the document's ValidPath; and Under, of both. -/
import Derived.Test.YtpnhamfodjfacaaDoorNQPath25
namespace Go.Proofs.YtpnhamfodjfacaaDoor.Q
open Go.RowKit Go.Proofs.YtpnhamfodjfacaaDoorW.PrintWords Go.Proofs.YtpnhamfodjfacaaDoorW.PrintLast Go.Proofs.YtpnhamfodjfacaaDoorW.PrintMore Go.Proofs.YtpnhamfodjfacaaDoor.N
set_option linter.unusedVariables false
set_option linter.unusedSimpArgs false
theorem rLD_is (c : UInt8) : codesearchref02_Letter.f (c.toNat : Int) = some ((97 ≤ c && c ≤ 122) || (65 ≤ c && c ≤ 90)) ∧ codesearchref02_Digit.f (c.toNat : Int) = some (48 ≤ c && c ≤ 57) := by
  have key : ∀ n : Fin 256, codesearchref02_Letter.f ((n.val : Nat) : Int) = some ((97 ≤ UInt8.ofNat n.val && UInt8.ofNat n.val ≤ 122) || (65 ≤ UInt8.ofNat n.val && UInt8.ofNat n.val ≤ 90)) ∧ codesearchref02_Digit.f ((n.val : Nat) : Int) = some (48 ≤ UInt8.ofNat n.val && UInt8.ofNat n.val ≤ 57) := by decide +kernel
  have h := key ⟨c.toNat, c.toNat_lt⟩
  rwa [UInt8.ofNat_toNat] at h
theorem u8_eq (c : UInt8) (n : Nat) (h : n < 256) : ((c.toNat : Int) = (n : Int)) ↔ c = UInt8.ofNat n := by
  constructor
  · intro e
    have e2 : c.toNat = n := by omega
    rw [← e2, UInt8.ofNat_toNat]
  · intro e
    rw [e, UInt8.toNat_ofNat']
    omega
theorem rname_l0 (p : ByteArray) (hp : p.size ≤ 100000) : ∀ d (j : Nat), j + d = p.size → Ev (fun k => codesearchref02_name.l0 k p (j : Int)) (((bl p).drop j).all okc) := by
  intro d
  induction d with
  | zero =>
    intro j hj
    rw [List.drop_of_length_le (by rw [bl_len]; omega)]
    refine Ev.step (f := fun _ => some true) (fun k => ?_) (Ev.now _)
    rw [codesearchref02_name.l0, if_neg (by omega)]
  | succ d ih =>
    intro j hj
    have hlt : j < (bl p).length := by rw [bl_len]; omega
    have hn := ih (j + 1) (by omega)
    rw [drop_cons _ j hlt, List.all_cons]
    have hw : wrap64 ((j : Int) + 1) = ((j + 1 : Nat) : Int) := by rw [w64 (by omega) (by omega)]; rfl
    refine Ev.step (fun k => by rw [codesearchref02_name.l0, if_pos (by omega), if_pos (by omega), bt_bl p j hlt, (rLD_is _).1, Option.bind_some, hw]) ?_
    generalize (bl p)[j] = c
    by_cases h1 : ((97 ≤ c && c ≤ 122) || (65 ≤ c && c ≤ 90)) = true
    · refine Ev.ite_pos h1 ?_
      rw [okc, h1]; simpa using hn
    refine Ev.ite_neg h1 (Ev.bind_eq (rLD_is c).2 ?_)
    by_cases h2 : (48 ≤ c && c ≤ 57) = true
    · refine Ev.ite_pos h2 ?_
      rw [okc, h2]; simpa using hn
    refine Ev.ite_neg h2 ?_
    by_cases h3 : c = 46
    · refine Ev.ite_pos ((u8_eq c 46 (by omega)).2 h3) ?_
      rw [okc, h3]; simpa using hn
    refine Ev.ite_neg (fun e => h3 ((u8_eq c 46 (by omega)).1 e)) ?_
    by_cases h4 : c = 95
    · refine Ev.ite_pos ((u8_eq c 95 (by omega)).2 h4) ?_
      rw [okc, h4]; simpa using hn
    refine Ev.ite_neg (fun e => h4 ((u8_eq c 95 (by omega)).1 e)) ?_
    by_cases h5 : c = 45
    · refine Ev.ite_pos ((u8_eq c 45 (by omega)).2 h5) ?_
      rw [okc, h5]; simpa using hn
    refine Ev.ite_neg (fun e => h5 ((u8_eq c 45 (by omega)).1 e)) ?_
    have e : okc c = false := by
      rw [okc, Bool.eq_false_iff.2 h1, Bool.eq_false_iff.2 h2, beq_eq_false_iff_ne.2 h3, beq_eq_false_iff_ne.2 h4, beq_eq_false_iff_ne.2 h5]; rfl
    rw [e, Bool.false_and]
    exact Ev.now _
theorem rname_is (p : ByteArray) (hp : p.size ≤ 100000) : Ev (fun k => codesearchref02_name.f k p) (okname (bl p)) := by
  have hf : okname (bl p) = false → Ev (fun k => codesearchref02_name.j0 k p true) (okname (bl p)) := by
    intro e
    rw [e]
    refine Ev.step (f := fun _ => some false) (fun k => ?_) (Ev.now _)
    rw [codesearchref02_name.j0, if_pos rfl]
  refine Ev.congr (fun k => by rw [codesearchref02_name.f, toList_bl]) ?_
  by_cases h3 : (p.size : Int) < 1
  · exact Ev.ite_pos h3 (hf (by rw [okname, decide_eq_false (by rw [bl_len]; omega), Bool.false_and]))
  refine Ev.ite_neg h3 ?_
  by_cases h4 : (p.size : Int) > 24
  · exact Ev.ite_pos h4 (hf (by rw [okname, decide_eq_false (show ¬ (bl p).length ≤ 24 by rw [bl_len]; omega), Bool.false_and, Bool.and_false]))
  refine Ev.ite_neg h4 ?_
  by_cases h1 : bl p = [46]
  · exact Ev.ite_pos h1 (hf (by rw [h1]; decide))
  refine Ev.ite_neg h1 ?_
  by_cases h2 : bl p = [46, 46]
  · rw [beq_iff_eq.2 h2]
    exact hf (by rw [h2]; decide)
  rw [beq_eq_false_iff_ne.2 h2]
  have e : okname (bl p) = (bl p).all okc := by
    rw [okname, decide_eq_true (show 1 ≤ (bl p).length by rw [bl_len]; omega), decide_eq_true (show (bl p).length ≤ 24 by rw [bl_len]; omega), decide_eq_true h1, decide_eq_true h2]; simp
  rw [e]
  refine Ev.step (fun k => by rw [codesearchref02_name.j0, if_neg (by decide)]) ?_
  exact rname_l0 p hp p.size 0 (by omega)
theorem rValid_l0 (s : ByteArray) (hs : s.size ≤ 100000) : ∀ d (b a : Nat), b + d = s.size → a ≤ b → (47 : UInt8) ∉ ((bl s).drop a).take (b - a) →
    Ev (fun k => codesearchref02_ValidPath.l0 k s (a : Int) (b : Int)) ((split47 ((bl s).drop a)).all okname) := by
  intro d
  induction d with
  | zero =>
    intro b a hb hab hno
    obtain rfl : b = s.size := by omega
    have hd : ((bl s).drop a).take (s.size - a) = (bl s).drop a := List.take_of_length_le (by rw [List.length_drop, bl_len]; omega)
    rw [hd] at hno
    have he : bl (s.extract a s.size) = (bl s).drop a := by rw [bl_ext, hd]
    refine Ev.step (fun k => by rw [codesearchref02_ValidPath.l0, if_pos (Int.le_refl _), if_pos rfl]) (Ev.step (fun k => by rw [codesearchref02_ValidPath.j1, if_pos rfl, if_pos (by omega), if_pos (by omega), if_pos (by omega), Int.toNat_natCast, Int.toNat_natCast]) ?_)
    have hn := rname_is (s.extract a s.size) (by rw [ByteArray.size_extract]; omega)
    rw [he] at hn
    rw [split_none hno, List.all_cons, List.all_nil, Bool.and_true]
    refine Ev.bind hn ?_
    by_cases h : okname ((bl s).drop a) = true
    · rw [h]
      refine Ev.ite_pos rfl (Ev.step (f := fun _ => some true) (fun k => ?_) (Ev.now _))
      rw [codesearchref02_ValidPath.l0, w64 (by omega) (by omega), if_neg (by omega)]
    · rw [Bool.eq_false_iff.2 h]
      exact Ev.ite_neg (by simp) (Ev.now _)
  | succ d ih =>
    intro b a hb hab hno
    have hlt : b < (bl s).length := by rw [bl_len]; omega
    have hw : wrap64 ((b : Int) + 1) = ((b + 1 : Nat) : Int) := by rw [w64 (by omega) (by omega)]; rfl
    refine Ev.step (fun k => by rw [codesearchref02_ValidPath.l0, if_pos (by omega), if_neg (by omega), if_pos (by omega), if_pos (by omega), bt_bl s b hlt]) ?_
    have hsp : (bl s).drop a = ((bl s).drop a).take (b - a) ++ (bl s)[b] :: (bl s).drop (b + 1) := by
      have h1 := List.take_append_drop (b - a) ((bl s).drop a)
      rw [List.drop_drop, show a + (b - a) = b by omega, drop_cons _ b hlt] at h1
      exact h1.symm
    by_cases h : (bl s)[b] = 47
    · rw [show (((bl s)[b].toNat : Int) == 47) = true from beq_iff_eq.2 ((u8_eq _ 47 (by omega)).2 h)]
      have he : bl (s.extract a b) = ((bl s).drop a).take (b - a) := bl_ext s a b
      have hn := rname_is (s.extract a b) (by rw [ByteArray.size_extract]; omega)
      rw [he] at hn
      rw [h] at hsp
      refine Ev.step (fun k => by rw [codesearchref02_ValidPath.j1, if_pos rfl, if_pos (by omega), if_pos (by omega), if_pos (by omega), Int.toNat_natCast, Int.toNat_natCast, hw]) (Ev.bind hn ?_)
      rw [hsp, split_at _ hno, List.all_cons]
      rw [← hsp]
      by_cases h2 : okname (((bl s).drop a).take (b - a)) = true
      · rw [h2, Bool.true_and]
        refine Ev.ite_pos rfl ?_
        exact ih (b + 1) (b + 1) (by omega) (Nat.le_refl _) (by rw [Nat.sub_self, List.take_zero]; simp)
      · rw [Bool.eq_false_iff.2 h2, Bool.false_and]
        exact Ev.ite_neg (by simp) (Ev.now _)
    · rw [show (((bl s)[b].toNat : Int) == 47) = false from beq_eq_false_iff_ne.2 (fun e => h ((u8_eq _ 47 (by omega)).1 e))]
      refine Ev.step (fun k => by rw [codesearchref02_ValidPath.j1, if_neg (by decide), hw]) ?_
      refine ih (b + 1) a (by omega) (by omega) ?_
      have h3 : ((bl s).drop a).take (b + 1 - a) = ((bl s).drop a).take (b - a) ++ [(bl s)[b]] := by
        rw [show b + 1 - a = (b - a) + 1 by omega, List.take_succ_eq_append_getElem (by rw [List.length_drop]; omega)]
        congr 2
        rw [List.getElem_drop]
        congr 1
        omega
      rw [h3, List.mem_append, not_or]
      exact ⟨hno, by rw [List.mem_singleton]; exact fun e => h e.symm⟩
theorem rValidPath_is (s : ByteArray) : Ev (fun k => codesearchref02_ValidPath.f k s) (validP s) := by
  by_cases h : (s.size : Int) > 60
  · refine Ev.congr (fun k => ?_) (Ev.now _)
    rw [codesearchref02_ValidPath.f, if_pos h, validP, decide_eq_false (by omega), Bool.false_and]
  · have hs : s.size ≤ 60 := by omega
    refine Ev.congr (fun k => by rw [codesearchref02_ValidPath.f, if_neg h]) ?_
    rw [validP, decide_eq_true hs, Bool.true_and]
    have := rValid_l0 s (by omega) s.size 0 0 (by omega) (Nat.le_refl _) (by rw [Nat.sub_self, List.take_zero]; simp)
    rw [List.drop_zero] at this
    exact this
/-! ### Under -/
/-- The path lies below the directory. -/
def underP (p d : ByteArray) : Bool := decide (bl d = []) || decide (bl p = bl d ++ 47 :: (bl p).drop ((bl d).length + 1))
theorem bl_append (a b : ByteArray) : bl (a ++ b) = bl a ++ bl b := by
  unfold bl; rw [ByteArray.data_append, Array.toList_append]
theorem under_iff {p d : List UInt8} : p = d ++ 47 :: p.drop (d.length + 1) ↔ p.take (d.length + 1) = d ++ [47] := by
  constructor
  · intro h
    rw [h, List.take_append, List.take_of_length_le (by omega), show d.length + 1 - d.length = 1 by omega]; rfl
  · intro h
    have h1 := List.take_append_drop (d.length + 1) p
    rw [h, List.append_assoc] at h1
    exact h1.symm
theorem Under_is (p d : ByteArray) (hd : d.size ≤ 140737488351232) : glob_Under.f p d = some (underP p d) := by
  rw [glob_Under.f, underP, toList_bl]
  by_cases h0 : bl d = []
  · rw [if_pos h0, decide_eq_true h0, Bool.true_or]
  rw [if_neg h0, if_pos (by omega), strings_HasPrefix.f, stringslite_HasPrefix.f, decide_eq_false h0, Bool.false_or]
  have hsz : (d ++ (⟨#[47]⟩ : ByteArray)).size = d.size + 1 := by rw [ByteArray.size_append]; rfl
  have hx : (bl p = bl d ++ 47 :: (bl p).drop ((bl d).length + 1)) ↔ (bl p).take ((bl d).length + 1) = bl d ++ [47] := under_iff
  by_cases h1 : (p.size : Int) ≥ ((d ++ (⟨#[47]⟩ : ByteArray)).size : Int)
  · rw [if_pos h1, if_pos (by omega), if_pos h1, Option.bind_some, Option.bind_some, toList_bl, toList_bl, bl_ext, List.drop_zero, Nat.sub_zero, hsz, bl_append]
    congr 1
    rw [show (((d.size + 1 : Nat)) : Int).toNat = (bl d).length + 1 from rfl, decide_eq_decide.2 hx]
    by_cases h2 : (bl p).take ((bl d).length + 1) = bl d ++ [47]
    · rw [decide_eq_true h2]; exact beq_iff_eq.2 h2
    · rw [decide_eq_false h2]; exact beq_eq_false_iff_ne.2 h2
  · rw [if_neg h1, Option.bind_some, Option.bind_some]
    congr 1
    symm
    rw [decide_eq_false_iff_not]
    intro e
    have h2 := congrArg List.length e
    rw [List.length_append, List.length_cons, bl_len, bl_len, List.length_drop, bl_len] at h2
    rw [hsz] at h1
    omega
theorem rUnder_is (p d : ByteArray) : codesearchref02_Under.f p d = some (underP p d) := by
  rw [codesearchref02_Under.f, underP, toList_bl]
  by_cases h0 : bl d = []
  · rw [if_pos h0, decide_eq_true h0, Bool.true_or]
  rw [if_neg h0, decide_eq_false h0, Bool.false_or]
  by_cases h1 : (p.size : Int) > (d.size : Int)
  · have hlt : d.size < (bl p).length := by rw [bl_len]; omega
    rw [if_pos h1, if_pos (by omega), if_pos (by omega), toList_bl, bl_ext, List.drop_zero, Nat.sub_zero, Int.toNat_natCast]
    have ht : (bl p).take (d.size + 1) = (bl p).take d.size ++ [(bl p)[d.size]] := List.take_succ_eq_append_getElem hlt
    by_cases h2 : (bl p).take d.size = bl d
    · rw [if_pos h2, if_pos (by omega), bt_bl p d.size hlt]
      congr 1
      by_cases h3 : (bl p)[d.size] = 47
      · rw [show (((bl p)[d.size].toNat : Int) == 47) = true from beq_iff_eq.2 ((u8_eq _ 47 (by omega)).2 h3)]
        symm
        rw [decide_eq_true_iff]
        refine under_iff.2 ?_
        rw [bl_len, ht, h2, h3]
      · rw [show (((bl p)[d.size].toNat : Int) == 47) = false from beq_eq_false_iff_ne.2 (fun e => h3 ((u8_eq _ 47 (by omega)).1 e))]
        symm
        rw [decide_eq_false_iff_not]
        intro e
        have e2 := under_iff.1 e
        rw [bl_len, ht, h2] at e2
        exact h3 (by simpa using List.append_cancel_left e2)
    · rw [if_neg h2]
      congr 1
      symm
      rw [decide_eq_false_iff_not]
      intro e
      have e2 := under_iff.1 e
      rw [bl_len, ht] at e2
      exact h2 (List.append_inj e2 (by rw [List.length_take, bl_len, bl_len]; rw [bl_len] at hlt; omega)).1
  · rw [if_neg h1]
    congr 1
    symm
    rw [decide_eq_false_iff_not]
    intro e
    have h2 := congrArg List.length e
    rw [List.length_append, List.length_cons, bl_len, bl_len, List.length_drop, bl_len] at h2
    omega
end Go.Proofs.YtpnhamfodjfacaaDoor.Q
