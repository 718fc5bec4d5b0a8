/- ChecksumJoins: for every input the law's pure function answers true. -/
import Derived.Test.YtihfpmociffpeaaStChecksumJoins
import Derived.Test.YtihfpmociffpeaaCQAlive04
import Derived.Test.YtihfpmociffpeaaCQCrc
namespace Go.Proofs.Ytihfpmociffpeaa.Pure
open Go.RowKit Go.Proofs.Ytihfpmociffpeaa.C Go.Proofs.YtihfpmociffpeaaW.PrintWords Go.Proofs.YtihfpmociffpeaaW.PrintLast Go.Proofs.YtihfpmociffpeaaW.PrintMore Go.Proofs.Ytihfpmociffpeaa.Q Go.Proofs.Ytihfpmociffpeaa.StChecksumJoins
set_option linter.unusedVariables false
set_option linter.unusedSimpArgs false

abbrev x8 (p q : Int) : Int := Go.bits .xor .u8 p q
def xor3 (a b c : List Int) : List Int := List.zipWith x8 (List.zipWith x8 a b) c
theorem xor3_length (a b c : List Int) (h1 : a.length = b.length) (h2 : a.length = c.length) : (xor3 a b c).length = a.length := by
  simp only [xor3, List.length_zipWith]; omega
theorem x8_nat {p q : Int} (hp : 0 ≤ p ∧ p < 256) (hq : 0 ≤ q ∧ q < 256) : x8 p q = ((p.toNat ^^^ q.toNat : Nat) : Int) := by
  have h := xor_nat8 p.toNat q.toNat (by omega) (by omega)
  rw [Int.toNat_of_nonneg hp.1, Int.toNat_of_nonneg hq.1] at h
  exact h
theorem x8_range {p q : Int} (hp : 0 ≤ p ∧ p < 256) (hq : 0 ≤ q ∧ q < 256) : 0 ≤ x8 p q ∧ x8 p q < 256 := by
  rw [x8_nat hp hq]
  have h : (p.toNat ^^^ q.toNat) < 2 ^ 8 := Nat.xor_lt_two_pow (by omega) (by omega)
  omega
theorem crcN_xor3 : ∀ (a b c : List Int) (x y z : Nat), a.length = b.length → a.length = c.length → (∀ v ∈ a, 0 ≤ v ∧ v < 256) → (∀ v ∈ b, 0 ≤ v ∧ v < 256) → (∀ v ∈ c, 0 ≤ v ∧ v < 256) →
    crcN (x ^^^ y ^^^ z) (nats (xor3 a b c)) = crcN x (nats a) ^^^ crcN y (nats b) ^^^ crcN z (nats c) ∧ ∀ v ∈ xor3 a b c, 0 ≤ v ∧ v < 256 := by
  intro a
  induction a with
  | nil =>
    intro b c x y z h1 h2 _ _ _
    obtain rfl := List.length_eq_zero_iff.1 h1.symm
    obtain rfl := List.length_eq_zero_iff.1 h2.symm
    exact ⟨rfl, fun v hv => by simp [xor3] at hv⟩
  | cons p a ih =>
    intro b c x y z h1 h2 ha hb hc
    obtain ⟨q, b, rfl⟩ : ∃ q b', b = q :: b' := by cases b with | nil => simp at h1 | cons q b => exact ⟨q, b, rfl⟩
    obtain ⟨r, c, rfl⟩ : ∃ r c', c = r :: c' := by cases c with | nil => simp at h2 | cons r c => exact ⟨r, c, rfl⟩
    have hp := ha p (by simp)
    have hq := hb q (by simp)
    have hr := hc r (by simp)
    have hpq := x8_range hp hq
    have hpqr := x8_range hpq hr
    have e : (x8 (x8 p q) r).toNat = p.toNat ^^^ q.toNat ^^^ r.toNat := by
      rw [x8_nat hpq hr, Int.toNat_natCast, x8_nat hp hq, Int.toNat_natCast]
    obtain ⟨i1, i2⟩ := ih b c (crcT x p.toNat) (crcT y q.toNat) (crcT z r.toNat) (by simpa using h1) (by simpa using h2) (fun v hv => ha v (by simp [hv])) (fun v hv => hb v (by simp [hv])) (fun v hv => hc v (by simp [hv]))
    constructor
    · have e1 : crcN (x ^^^ y ^^^ z) (nats (xor3 (p :: a) (q :: b) (r :: c))) = crcN (crcT (x ^^^ y ^^^ z) (x8 (x8 p q) r).toNat) (nats (xor3 a b c)) := rfl
      rw [e1, e]
      have e2 : crcT (x ^^^ y ^^^ z) (p.toNat ^^^ q.toNat ^^^ r.toNat) = crcT x p.toNat ^^^ crcT y q.toNat ^^^ crcT z r.toNat := by
        unfold crcT
        rw [← crcSn_xor, ← crcSn_xor]
        congr 1
        ac_rfl
      rw [e2, i1]
      rfl
    · intro v hv
      rcases List.mem_cons.1 (show v ∈ x8 (x8 p q) r :: xor3 a b c from hv) with rfl | hv
      · exact hpqr
      · exact i2 v hv
theorem loop_go (a b c : List Int) (hlen : a.length ≤ 600) (h1 : a.length = b.length) (h2 : a.length = c.length) (ha : ∀ v ∈ a, 0 ≤ v ∧ v < 256) (hb : ∀ v ∈ b, 0 ≤ v ∧ v < 256) (hc : ∀ v ∈ c, 0 ≤ v ∧ v < 256) :
    ∀ d i : Nat, i + d = a.length → Ev (fun k => codesearchlaw04_ChecksumJoins.l0 k a b c ((xor3 a b c).take i) (i : Int)) true := by
  have hl := xor3_length a b c h1 h2
  obtain ⟨k1, k2⟩ := crcN_xor3 a b c (4294967295 ^^^ 0) (4294967295 ^^^ 0) (4294967295 ^^^ 0) h1 h2 ha hb hc
  intro d
  induction d with
  | zero =>
    intro i hi
    refine Ev.step (f := fun _ => some true) (fun k => ?_) (Ev.now _)
    have ba := crcE_lt (s := 0) (by decide) ha
    have bb := crcE_lt (s := 0) (by decide) hb
    have bc := crcE_lt (s := 0) (by decide) hc
    rw [codesearchlaw04_ChecksumJoins.l0, if_neg (by omega), List.take_of_length_le (by omega), Sum_go _ k2, Option.bind_some, Sum_go _ ha, Option.bind_some, Sum_go _ hb, Option.bind_some, Sum_go _ hc, Option.bind_some]
    rw [xor_nat _ _ ba bb, xor_nat _ _ (Nat.xor_lt_two_pow ba bb) bc]
    have e : crcE 0 (xor3 a b c) = crcE 0 a ^^^ crcE 0 b ^^^ crcE 0 c := by
      unfold crcE
      rw [show (4294967295 ^^^ 0 : Nat) = (4294967295 ^^^ 0) ^^^ (4294967295 ^^^ 0) ^^^ (4294967295 ^^^ 0) by decide, k1]
      simp only [Nat.xor_zero, Nat.xor_self, Nat.zero_xor]
      generalize crcN 4294967295 (nats a) = u
      generalize crcN 4294967295 (nats b) = v
      generalize crcN 4294967295 (nats c) = w
      rw [show (4294967295 ^^^ u ^^^ (4294967295 ^^^ v) ^^^ (4294967295 ^^^ w)) = (4294967295 ^^^ 4294967295) ^^^ (4294967295 ^^^ (u ^^^ v ^^^ w)) by ac_rfl, Nat.xor_self, Nat.zero_xor]
    rw [e]
    simp
  | succ d ih =>
    intro i hi
    refine Ev.step (f := fun k => codesearchlaw04_ChecksumJoins.l0 k a b c ((xor3 a b c).take (i + 1)) ((i + 1 : Nat) : Int)) (fun k => ?_) (ih (i + 1) (by omega))
    have hi' : i < (xor3 a b c).length := by omega
    have hx : (xor3 a b c)[i] = x8 (x8 a[i] b[i]) c[i] := by simp [xor3]
    rw [codesearchlaw04_ChecksumJoins.l0, if_pos (by omega), if_pos (by omega), if_pos (by omega), if_pos (by omega), if_pos (by rw [List.length_take]; omega), rd_nat a i (by omega), rd_nat b i (by omega), rd_nat c i (by omega), w64 (by omega) (by omega), ← take_snoc _ i hi', hx]
    rfl
theorem ChecksumJoins : StChecksumJoins.Pure := by
  intro U a b c ⟨hla, _, _, hwa⟩ ⟨hlb, _, _, hwb⟩ ⟨hlc, _, _, hwc⟩
  have ha : ∀ x ∈ a, 0 ≤ x ∧ x < 256 := fun x hx => wf_u8.1 (hwa x hx)
  have hb : ∀ x ∈ b, 0 ≤ x ∧ x < 256 := fun x hx => wf_u8.1 (hwb x hx)
  have hc : ∀ x ∈ c, 0 ≤ x ∧ x < 256 := fun x hx => wf_u8.1 (hwc x hx)
  clear hwa hwb hwc
  refine Ev.rounds (r := true) ?_
  refine Ev.congr (fun k => by rw [codesearchlaw04_ChecksumJoins.f]) (Ev.bind alive04 (Ev.ite_pos rfl ?_))
  have quit0 : Ev (fun k => codesearchlaw04_ChecksumJoins.j0 k a b c true) true := by
    refine Ev.step (f := fun _ => some true) (fun k => ?_) (Ev.now _)
    rw [codesearchlaw04_ChecksumJoins.j0, if_pos rfl]
  have quit1 : Ev (fun k => codesearchlaw04_ChecksumJoins.j1 k a b c true) true := by
    refine Ev.step (f := fun _ => some true) (fun k => ?_) (Ev.now _)
    rw [codesearchlaw04_ChecksumJoins.j1, if_pos rfl]
  by_cases c1 : (a.length : Int) > 600
  · exact Ev.ite_pos c1 quit0
  refine Ev.ite_neg c1 ?_
  by_cases c2 : (b.length : Int) > 600
  · exact Ev.ite_pos c2 quit0
  refine Ev.ite_neg c2 ?_
  by_cases c3 : (c.length : Int) > 600
  · rw [decide_eq_true c3]; exact quit0
  rw [decide_eq_false c3]
  have hab : ∀ x ∈ a ++ b, 0 ≤ x ∧ x < 256 := fun x hx => (List.mem_append.1 hx).elim (ha x) (hb x)
  have e : crcE (crcE 0 a) b = crcE 0 (a ++ b) := by
    unfold crcE
    rw [show nats (a ++ b) = nats a ++ nats b from List.map_append, crcN_append, ← Nat.xor_assoc, Nat.xor_self, Nat.zero_xor]
  have last : Ev (fun k => if (a.length : Int) = (b.length : Int) then codesearchlaw04_ChecksumJoins.j1 k a b c ((a.length : Int) != (c.length : Int)) else codesearchlaw04_ChecksumJoins.j1 k a b c true) true := by
    by_cases c4 : (a.length : Int) = (b.length : Int)
    · refine Ev.ite_pos c4 ?_
      by_cases c5 : (a.length : Int) = (c.length : Int)
      · rw [bne_eq_false_iff_eq.2 c5]
        have hl := loop_go a b c (by omega) (by omega) (by omega) ha hb hc a.length 0 (by omega)
        rw [List.take_zero] at hl
        refine Ev.step (fun k => ?_) hl
        rw [codesearchlaw04_ChecksumJoins.j1, if_neg (by decide)]
        rfl
      · rw [bne_iff_ne.2 c5]; exact quit1
    · exact Ev.ite_neg c4 quit1
  refine Ev.step (fun k => ?_) last
  rw [codesearchlaw04_ChecksumJoins.j0, if_neg (by decide), if_pos (by simp; omega), Option.bind_some, List.nil_append, if_pos (by omega), Sum_go _ ha, Option.bind_some, Extend_go _ (crcE_lt (by decide) ha) _ hb, Option.bind_some, Sum_go _ hab, Option.bind_some, if_pos (by rw [e])]

end Go.Proofs.Ytihfpmociffpeaa.Pure
