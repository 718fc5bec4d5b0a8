/- A frame among other bytes: what opening answers; a frame that was changed. -/
import Derived.Test.YtihfpmociffpeaaCQOpen
import Derived.Test.YtihfpmociffpeaaCQEnc
namespace Go.Proofs.Ytihfpmociffpeaa.Q
open Go.RowKit Go.Proofs.YtihfpmociffpeaaW.PrintWords Go.Proofs.YtihfpmociffpeaaW.PrintLast Go.Proofs.YtihfpmociffpeaaW.PrintMore Go.Proofs.Ytihfpmociffpeaa.C
set_option linter.unusedVariables false
set_option linter.unusedSimpArgs false

abbrev x8 (p q : Int) : Int := Go.bits .xor .u8 p q
theorem x8_nat {p q : Int} (hp : 0 ≤ p ∧ p < 256) (hq : 0 ≤ q ∧ q < 256) : x8 p q = ((p.toNat ^^^ q.toNat : Nat) : Int) := by
  have h := xor_nat8 p.toNat q.toNat (by omega) (by omega)
  rw [Int.toNat_of_nonneg hp.1, Int.toNat_of_nonneg hq.1] at h
  exact h
theorem x8_range {p q : Int} (hp : 0 ≤ p ∧ p < 256) (hq : 0 ≤ q ∧ q < 256) : 0 ≤ x8 p q ∧ x8 p q < 256 := by
  rw [x8_nat hp hq]
  have h : (p.toNat ^^^ q.toNat) < 2 ^ 8 := Nat.xor_lt_two_pow (by omega) (by omega)
  omega
theorem x8_same {p q : Int} (hp : 0 ≤ p ∧ p < 256) (hq : 0 ≤ q ∧ q < 256) (h : x8 p q = p) : q = 0 := by
  rw [x8_nat hp hq] at h
  have h1 : p.toNat ^^^ q.toNat = p.toNat := by omega
  have h2 : p.toNat ^^^ (p.toNat ^^^ q.toNat) = p.toNat ^^^ p.toNat := by rw [h1]
  rw [← Nat.xor_assoc, Nat.xor_self, Nat.zero_xor] at h2
  omega
theorem four4_inj {s t : Nat} (hs : s < 2 ^ 32) (ht : t < 2 ^ 32) (h : four4 s = four4 t) : s = t := by
  unfold four4 at h
  injection h with h1 h
  injection h with h2 h
  injection h with h3 h
  injection h with h4 h
  omega
theorem rd_mid (p q : List Int) (x : Int) : rd (p ++ x :: q) (p.length : Int) = x := by
  rw [rd_nat _ p.length (by simp)]
  simp
theorem ok4_form (p s z : List Int) (hs : s.length = 4) (v : Nat) : ok4 (p ++ s ++ z) p.length v ↔ s = four4 v := by
  obtain ⟨s0, s1, s2, s3, rfl⟩ : ∃ s0 s1 s2 s3, s = [s0, s1, s2, s3] := by
    match s, hs with
    | [s0, s1, s2, s3], _ => exact ⟨s0, s1, s2, s3, rfl⟩
  have r0 := rd_mid p ([s1, s2, s3] ++ z) s0
  have r1 := rd_mid (p ++ [s0]) ([s2, s3] ++ z) s1
  have r2 := rd_mid (p ++ [s0, s1]) ([s3] ++ z) s2
  have r3 := rd_mid (p ++ [s0, s1, s2]) z s3
  simp only [List.length_append, List.length_cons, List.length_nil, List.append_assoc, List.cons_append, List.nil_append, Nat.zero_add] at r0 r1 r2 r3
  unfold ok4 four4
  simp only [List.append_assoc, List.cons_append, List.nil_append]
  rw [r0, r1, r2, r3]
  simp
theorem openB_form (a h d s z : List Int) (hs : s.length = 4) : openB (a ++ (h ++ d) ++ s ++ z) a.length (a.length + h.length) d.length =
    if s = four4 (crcE 0 (h ++ d)) then (d, ((a.length + h.length + d.length + 4 : Nat) : Int), 0) else ([], 0, 6) := by
  have hl : (a ++ (h ++ d) ++ s ++ z).length = a.length + (h.length + d.length) + 4 + z.length := by simp only [List.length_append, hs]
  rw [openB_in (by omega)]
  have hp : (a ++ (h ++ d)).length = a.length + h.length + d.length := by simp only [List.length_append]; omega
  have ht : (a ++ (h ++ d) ++ s ++ z).take (a.length + h.length + d.length) = a ++ (h ++ d) := by
    rw [← hp, List.append_assoc (a ++ (h ++ d)), List.take_left]
  have h1 : (a ++ (h ++ d)).drop a.length = h ++ d := List.drop_left
  have h2 : (a ++ (h ++ d)).drop (a.length + h.length) = d := by
    rw [← List.append_assoc, show a.length + h.length = (a ++ h).length by simp, List.drop_left]
  rw [ht, h1, h2, ← hp]
  by_cases hk : s = four4 (crcE 0 (h ++ d))
  · rw [if_pos ((ok4_form _ s z hs _).2 hk), if_pos hk]
  · rw [if_neg (fun hq => hk ((ok4_form _ s z hs _).1 hq)), if_neg hk]
theorem openL_formM (a d s z : List Int) (m : Int) (hs : s.length = 4) (hd : d.length ≤ 140737488351000) (hm : (d.length : Int) ≤ m) : openL (a ++ (enc7 10 (d.length : Int) ++ d) ++ s ++ z) (a.length : Int) m =
    if s = four4 (crcE 0 (enc7 10 (d.length : Int) ++ d)) then (d, ((a.length + (enc7 10 (d.length : Int)).length + d.length + 4 : Nat) : Int), 0) else ([], 0, 6) := by
  have hg := get7_enc a (d ++ s ++ z) (d.length : Int) (by omega) (by omega)
  have e : a ++ (enc7 10 (d.length : Int) ++ (d ++ s ++ z)) = a ++ (enc7 10 (d.length : Int) ++ d) ++ s ++ z := by simp only [List.append_assoc]
  rw [e] at hg
  unfold openL
  rw [hg]
  simp only [if_true, if_neg (show ¬ (d.length : Int) > m by omega), Int.toNat_natCast]
  rw [show ((a.length : Int) + ((enc7 10 (d.length : Int)).length : Int)).toNat = a.length + (enc7 10 (d.length : Int)).length by omega]
  exact openB_form a _ d s z hs
theorem openL_form (a d s z : List Int) (hs : s.length = 4) (hd : d.length ≤ 140737488351000) : openL (a ++ (enc7 10 (d.length : Int) ++ d) ++ s ++ z) (a.length : Int) (d.length : Int) =
    if s = four4 (crcE 0 (enc7 10 (d.length : Int) ++ d)) then (d, ((a.length + (enc7 10 (d.length : Int)).length + d.length + 4 : Nat) : Int), 0) else ([], 0, 6) := openL_formM a d s z _ hs hd (Int.le_refl _)
/-- Up to four bytes were changed: another checksum. -/
theorem crcE_burst (p v v' q : List Int) (hl : v.length = v'.length) (h4 : v.length ≤ 4) (hp : ∀ x ∈ p, 0 ≤ x ∧ x < 256) (hv : ∀ x ∈ v, 0 ≤ x ∧ x < 256) (hv' : ∀ x ∈ v', 0 ≤ x ∧ x < 256) (hq : ∀ x ∈ q, 0 ≤ x ∧ x < 256)
    (h : crcE 0 (p ++ v ++ q) = crcE 0 (p ++ v' ++ q)) : v = v' := by
  unfold crcE at h
  have h1 : 4294967295 ^^^ (4294967295 ^^^ crcN (4294967295 ^^^ 0) (nats (p ++ v ++ q))) = 4294967295 ^^^ (4294967295 ^^^ crcN (4294967295 ^^^ 0) (nats (p ++ v' ++ q))) := by rw [h]
  rw [← Nat.xor_assoc, ← Nat.xor_assoc, Nat.xor_self, Nat.zero_xor, Nat.zero_xor] at h1
  have en : ∀ x y : List Int, nats (x ++ y) = nats x ++ nats y := fun x y => List.map_append
  rw [en, en, en, en, crcN_append, crcN_append, crcN_append, crcN_append] at h1
  have hb := crcN_lt (nats p) (x := 4294967295 ^^^ 0) (by decide) (nats_lt hp)
  have h2 := crcN_inj (nats q) (crcN_lt (nats v) hb (nats_lt hv)) (crcN_lt (nats v') hb (nats_lt hv')) (nats_lt hq) h1
  have h3 := crcN_burst hb (nats v) (nats v') (by simp [nats, hl]) (by simpa [nats] using h4) (nats_lt hv) (nats_lt hv') h2
  have back : ∀ l : List Int, (∀ x ∈ l, 0 ≤ x ∧ x < 256) → (nats l).map (fun n : Nat => (n : Int)) = l := by
    intro l hl
    unfold nats
    rw [List.map_map]
    conv => rhs; rw [← List.map_id l]
    exact List.map_congr_left (fun x hx => Int.toNat_of_nonneg (hl x hx).1)
  rw [← back v hv, ← back v' hv', h3]
/-- The change, at its place. -/
def mixL (v pt : List Int) : List Int := List.zipWith x8 v pt
theorem mixL_length {v pt : List Int} (h : v.length = pt.length) : (mixL v pt).length = pt.length := by simp only [mixL, List.length_zipWith]; omega
theorem mixL_range : ∀ {v pt : List Int}, (∀ x ∈ v, 0 ≤ x ∧ x < 256) → (∀ x ∈ pt, 0 ≤ x ∧ x < 256) → ∀ x ∈ mixL v pt, 0 ≤ x ∧ x < 256 := by
  intro v
  induction v with
  | nil => intro pt _ _ x hx; simp [mixL] at hx
  | cons p v ih =>
    intro pt hv hp x hx
    cases pt with
    | nil => simp [mixL] at hx
    | cons q pt =>
      rcases List.mem_cons.1 (show x ∈ x8 p q :: mixL v pt from hx) with rfl | hx
      · exact x8_range (hv p (by simp)) (hp q (by simp))
      · exact ih (fun y hy => hv y (by simp [hy])) (fun y hy => hp y (by simp [hy])) x hx
theorem mixL_same : ∀ {v pt : List Int}, v.length = pt.length → (∀ x ∈ v, 0 ≤ x ∧ x < 256) → (∀ x ∈ pt, 0 ≤ x ∧ x < 256) → v = mixL v pt → pt.all (· == 0) = true := by
  intro v
  induction v with
  | nil => intro pt h _ _ _; rw [List.length_eq_zero_iff.1 h.symm]; rfl
  | cons p v ih =>
    intro pt h hv hp he
    cases pt with
    | nil => rfl
    | cons q pt =>
      have he' : p :: v = x8 p q :: mixL v pt := he
      injection he' with h1 h2
      have hq := x8_same (hv p (by simp)) (hp q (by simp)) h1.symm
      rw [List.all_cons, ih (by simpa using h) (fun y hy => hv y (by simp [hy])) (fun y hy => hp y (by simp [hy])) h2, hq]
      rfl
theorem set_mid (p q : List Int) (x y : Int) : (p ++ x :: q).set p.length y = p ++ y :: q := by
  rw [List.set_append_right _ _ (Nat.le_refl _)]
  simp
end Go.Proofs.Ytihfpmociffpeaa.Q
