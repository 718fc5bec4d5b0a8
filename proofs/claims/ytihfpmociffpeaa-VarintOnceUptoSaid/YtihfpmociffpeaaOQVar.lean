/- What the numbers' encoding is, on lists of bytes; what the program's and the document's functions answer. -/
import Derived.Test.YtihfpmociffpeaaOx1
import Derived.Test.YtihfpmociffpeaaQGen
namespace Go.Proofs.Ytihfpmociffpeaa.Q
open Go.RowKit Go.Proofs.YtihfpmociffpeaaW.PrintWords Go.Proofs.YtihfpmociffpeaaW.PrintLast Go.Proofs.YtihfpmociffpeaaW.PrintMore Go.Proofs.Ytihfpmociffpeaa.O
set_option linter.unusedVariables false
set_option linter.unusedSimpArgs false

/-- The bytes up to the first one below 128. -/
def pre7 : List Int → Option (List Int)
  | [] => none
  | c :: t => if c < 128 then some [c] else (pre7 t).map (c :: ·)
def val7 : List Int → Int
  | [] => 0
  | c :: t => c % 128 + 128 * val7 t
def num7 (at_ : Int) (p : List Int) : Int × Int × Int :=
  if p.length > 9 then (0, 0, 4) else if val7 p > 4611686018427387904 then (0, 0, 4) else if p.length > 1 ∧ p.getLastD 0 = 0 then (0, 0, 3) else (val7 p, at_ + p.length, 0)
def get7 (b : List Int) (at_ : Int) : Int × Int × Int :=
  if at_ < 0 ∨ at_ > (b.length : Int) then (0, 0, 2) else
  match pre7 (b.drop at_.toNat) with
  | none => (0, 0, 5)
  | some p => num7 at_ p

theorem pre7_some {l p : List Int} (h : pre7 l = some p) : 0 < p.length ∧ p.length ≤ l.length ∧ l = p ++ l.drop p.length ∧ (∀ i (hi : i + 1 < p.length), 128 ≤ p[i]'(by omega)) ∧ p.getLastD 0 < 128 := by
  induction l generalizing p with
  | nil => simp [pre7] at h
  | cons c t ih =>
    unfold pre7 at h
    split at h
    · rename_i hc
      cases h
      simp; omega
    · rename_i hc
      cases hp : pre7 t with
      | none => simp [hp] at h
      | some q =>
        simp [hp] at h
        subst h
        obtain ⟨h1, h2, h3, h4, h5⟩ := ih hp
        refine ⟨by simp, by simp; omega, by simpa using h3, ?_, ?_⟩
        · intro i hi
          cases i with
          | zero => simp; omega
          | succ i => simp; exact h4 i (by simpa using hi)
        · cases q with
          | nil => simp at h1
          | cons y s => simpa using h5
theorem pre7_none {l : List Int} (h : pre7 l = none) : ∀ x ∈ l, 128 ≤ x := by
  induction l with
  | nil => simp
  | cons c t ih =>
    unfold pre7 at h
    split at h
    · cases h
    · rename_i hc
      intro x hx
      rcases List.mem_cons.1 hx with rfl | hx
      · omega
      · exact ih (by cases hp : pre7 t with
          | none => rfl
          | some q => simp [hp] at h) x hx
theorem val7_range (p : List Int) : 0 ≤ val7 p ∧ val7 p < 128 ^ p.length := by
  induction p with
  | nil => simp [val7]
  | cons c t ih =>
    simp only [val7, List.length_cons, Int.pow_succ]
    omega
theorem pow128 {i j : Nat} (h : i ≤ j) : (128 : Int) ^ i ≤ 128 ^ j := by
  have h1 := Nat.pow_le_pow_right (n := 128) (by decide) h
  exact_mod_cast h1
theorem val7_append (p q : List Int) : val7 (p ++ q) = val7 p + 128 ^ p.length * val7 q := by
  induction p with
  | nil => simp [val7]
  | cons c t ih =>
    simp only [List.cons_append, val7, ih, List.length_cons, Int.pow_succ]
    rw [Int.mul_add, Int.mul_comm (128 ^ t.length) 128, Int.mul_assoc]; omega

theorem get_pre {l p r : List Int} (h : l = p ++ r) (i : Nat) (hi : i < p.length) (hl : i < l.length) : l[i] = p[i] := by
  subst h; rw [List.getElem_append_left]
/-! ### the program's width and Get -/
theorem width_go (b : List Int) (hb : b.length < 9223372036854775807) (p : List Int) (hp : pre7 b = some p) :
    Ev (fun k => varint_width.f k b) (p.length : Int) := by
  obtain ⟨h1, h2, h3, h4, h5⟩ := pre7_some hp
  have key : ∀ d (i : Nat), i + d + 1 = p.length → Ev (fun k => varint_width.l0 k b (b.length : Int) (i : Int)) (p.length : Int) := by
    intro d
    induction d with
    | zero =>
      intro i hi
      have hl : i < b.length := by omega
      have hx : rd b (i : Int) < 128 := by
        rw [rd_nat b i hl]
        have e : b[i] = p.getLastD 0 := by
          have : b[i] = p[i]'(by omega) := get_pre h3 i (by omega) hl
          rw [this, List.getLastD_eq_getLast?, List.getLast?_eq_getElem?]
          simp [show p.length - 1 = i from by omega, List.getElem?_eq_getElem (show i < p.length by omega)]
        omega
      refine Ev.step (f := fun _ => some (p.length : Int)) (fun k => ?_) (Ev.now _)
      simp only [varint_width.l0]
      rw [if_pos (show (i : Int) < b.length by omega), if_pos (show (0 : Int) ≤ i by omega), if_pos (show (i : Int) < b.length by omega), if_pos hx, w64 (by omega) (by omega)]
      congr 1; omega
    | succ d ih =>
      intro i hi
      have hl : i < b.length := by omega
      have hx : ¬ rd b (i : Int) < 128 := by
        rw [rd_nat b i hl]
        have e : b[i] = p[i]'(by omega) := get_pre h3 i (by omega) hl
        have := h4 i (by omega)
        omega
      refine Ev.step (f := fun k => varint_width.l0 k b (b.length : Int) ((i + 1 : Nat) : Int)) (fun k => ?_) (ih (i + 1) (by omega))
      rw [varint_width.l0]
      rw [if_pos (show (i : Int) < b.length by omega), if_pos (show (0 : Int) ≤ i by omega), if_pos (show (i : Int) < b.length by omega), if_neg hx, w64 (by omega) (by omega)]
      rfl
  exact key (p.length - 1) 0 (by omega)
theorem width_none (b : List Int) (hb : b.length < 9223372036854775807) (hp : pre7 b = none) :
    Ev (fun k => varint_width.f k b) 0 := by
  have hall := pre7_none hp
  have key : ∀ d (i : Nat), i + d = b.length → Ev (fun k => varint_width.l0 k b (b.length : Int) (i : Int)) 0 := by
    intro d
    induction d with
    | zero =>
      intro i hi
      refine Ev.step (f := fun _ => some (0 : Int)) (fun k => ?_) (Ev.now _)
      rw [varint_width.l0, if_neg (show ¬ (i : Int) < b.length by omega)]
    | succ d ih =>
      intro i hi
      have hl : i < b.length := by omega
      have hx : ¬ rd b (i : Int) < 128 := by
        rw [rd_nat b i hl]
        have := hall b[i] (List.getElem_mem _)
        omega
      refine Ev.step (f := fun k => varint_width.l0 k b (b.length : Int) ((i + 1 : Nat) : Int)) (fun k => ?_) (ih (i + 1) (by omega))
      rw [varint_width.l0]
      rw [if_pos (show (i : Int) < b.length by omega), if_pos (show (0 : Int) ≤ i by omega), if_pos (show (i : Int) < b.length by omega), if_neg hx, w64 (by omega) (by omega)]
      rfl
  exact key b.length 0 (by omega)
theorem and127 (c : Int) (h0 : 0 ≤ c) (h1 : c < 256) : Go.bits .and .u8 c 127 = c % 128 := by
  have h : ∀ a : Fin 256, Go.bits .and .u8 (a.val : Int) 127 = (a.val : Int) % 128 := by decide +kernel
  have h2 := h ⟨c.toNat, by omega⟩
  simp only at h2
  rwa [show ((c.toNat : Nat) : Int) = c from by omega] at h2
theorem bits_or_comm (k : IntKind) (x y : Int) : Go.bits .or k x y = Go.bits .or k y x := by
  simp only [Go.bits, BitVec.or_comm]
theorem or_digit (i : Nat) (hi : i < 9) (x c : Int) (hx0 : 0 ≤ x) (hx1 : x < 128 ^ i) (hc0 : 0 ≤ c) (hc1 : c < 256) :
    Go.bits .or .u64 x (shl .u64 (IntKind.u64.wrap (Go.bits .and .u8 c 127)) (wrap64 (7 * (i : Int)))) = x + 128 ^ i * (c % 128) := by
  have hp : (2 : Int) ^ (7 * i) = 128 ^ i := by rw [Int.pow_mul]; rfl
  have hle : (128 : Int) ^ i ≤ 128 ^ 8 := pow128 (by omega)
  have h8 : (128 : Int) ^ 8 = 72057594037927936 := by decide
  have hpos : (0 : Int) < 128 ^ i := Int.pow_pos (by decide)
  have hm0 : 0 ≤ (c % 128) * 128 ^ i := Int.mul_nonneg (by omega) (by omega)
  have hm1 : (c % 128) * 128 ^ i ≤ 127 * 128 ^ i := Int.mul_le_mul_of_nonneg_right (by omega) (by omega)
  rw [and127 c hc0 hc1, u64w (by omega) (by omega), w64 (by omega) (by omega)]
  unfold shl
  rw [show (min (7 * (i : Int)).toNat IntKind.u64.bits) = 7 * i from by simp [IntKind.bits]; omega, hp, u64w hm0 (by omega), bits_or_comm]
  rw [bits_join .u64 64 (by decide) (fun n h0 h1 => u64w h0 (by omega)) (7 * i) _ x hm0 (by rw [hp]; exact Int.mul_emod_left _ _) (by omega) hx0 (by rw [hp]; exact hx1) (by omega)]
  rw [Int.mul_comm (c % 128)]; omega
theorem get_loop (b p r : List Int) (n : Nat) (hb : b.length ≤ 140737488351232) (hu : ∀ x ∈ b, 0 ≤ x ∧ x < 256) (hn : n ≤ b.length) (hd : b.drop n = p ++ r) (h1 : 0 < p.length) (h9 : p.length ≤ 9) :
    ∀ d (i : Nat), i + d = p.length → Ev (fun k => varint_Get.l0 k b (n : Int) (p.length : Int) (val7 (p.take i)) (p.length : Int) (i : Int)) (num7 (n : Int) p) := by
  have hlen : n + p.length ≤ b.length := by
    have := congrArg List.length hd
    simp at this; omega
  have hget : ∀ i (hi : i < p.length), rd b ((n + i : Nat) : Int) = p[i] := by
    intro i hi
    rw [rd_nat b (n + i) (by omega)]
    have := get_pre hd i hi (by simp; omega)
    rw [List.getElem_drop] at this
    exact this
  have hpu : ∀ x ∈ p, 0 ≤ x ∧ x < 256 := fun x hx => hu x (List.mem_of_mem_drop (i := n) (by rw [hd]; exact List.mem_append_left _ hx))
  intro d
  induction d with
  | zero =>
    intro i hi
    have ei : i = p.length := by omega
    subst ei
    rw [List.take_length]
    have hv := val7_range p
    have hle : (128 : Int) ^ p.length ≤ 128 ^ 9 := pow128 h9
    have h9' : (128 : Int) ^ 9 = 9223372036854775808 := by decide
    refine Ev.step (f := fun _ => some (num7 (n : Int) p)) (fun k => ?_) (Ev.now _)
    rw [varint_Get.l0, if_neg (show ¬ (p.length : Int) < (p.length : Int) by omega)]
    unfold num7
    rw [if_neg (show ¬ p.length > 9 by omega)]
    by_cases hbig : val7 p > 4611686018427387904
    · rw [if_pos hbig, if_pos hbig]
    · rw [if_neg hbig, if_neg hbig]
      by_cases hone : (p.length : Int) > 1
      · rw [if_pos hone]
        have e1 : wrap64 (wrap64 ((n : Int) + (p.length : Int)) - 1) = ((n + (p.length - 1) : Nat) : Int) := by
          rw [w64 (x := (n : Int) + (p.length : Int)) (by omega) (by omega), w64 (by omega) (by omega)]; omega
        rw [e1, if_pos (show (0 : Int) ≤ ((n + (p.length - 1) : Nat) : Int) by omega), if_pos (show ((n + (p.length - 1) : Nat) : Int) < (b.length : Int) by omega), hget _ (by omega)]
        have el : p.getLastD 0 = p[p.length - 1]'(by omega) := by
          rw [List.getLastD_eq_getLast?, List.getLast?_eq_getElem?]
          simp [List.getElem?_eq_getElem (show p.length - 1 < p.length by omega)]
        by_cases hz : p[p.length - 1]'(by omega) = 0
        · rw [if_pos hz, if_pos ⟨by omega, by rw [el]; exact hz⟩]
        · rw [if_neg hz, if_neg (fun h => hz (by rw [← el]; exact h.2)), w64 (by omega) (by omega), w64 (by omega) (by omega)]
      · rw [if_neg hone, if_neg (fun h => hone (by have := h.1; omega)), w64 (by omega) (by omega), w64 (by omega) (by omega)]
  | succ d ih =>
    intro i hi
    have hil : i < p.length := by omega
    have hc := hpu p[i] (List.getElem_mem _)
    have hv := val7_range (p.take i)
    rw [List.length_take_of_le (by omega)] at hv
    refine Ev.step (f := fun k => varint_Get.l0 k b (n : Int) (p.length : Int) (val7 (p.take (i + 1))) (p.length : Int) ((i + 1 : Nat) : Int)) (fun k => ?_) (ih (i + 1) (by omega))
    have e1 : wrap64 ((n : Int) + (i : Int)) = ((n + i : Nat) : Int) := by rw [w64 (by omega) (by omega)]; omega
    rw [varint_Get.l0, if_pos (show (i : Int) < (p.length : Int) by omega), e1, if_pos (show (0 : Int) ≤ ((n + i : Nat) : Int) by omega), if_pos (show ((n + i : Nat) : Int) < (b.length : Int) by omega),
      if_pos (show 0 ≤ wrap64 (7 * (i : Int)) by rw [w64 (by omega) (by omega)]; omega), hget i hil, or_digit i (by omega) _ _ hv.1 hv.2 hc.1 hc.2, w64 (x := (i : Int) + 1) (by omega) (by omega)]
    rw [← take_snoc p i hil, val7_append, List.length_take_of_le (by omega)]
    simp [val7]
theorem Get_go (b : List Int) (at_ : Int) (hb : b.length ≤ 140737488351232) (hu : ∀ x ∈ b, 0 ≤ x ∧ x < 256) :
    Ev (fun k => varint_Get.f k b at_) (get7 b at_) := by
  unfold get7
  by_cases h0 : at_ < 0
  · rw [if_pos (.inl h0)]
    refine Ev.congr (fun k => by rw [varint_Get.f, if_pos h0]) (Ev.step (f := fun _ => some (0, 0, 2)) (fun k => ?_) (Ev.now _))
    rw [varint_Get.j0, if_pos rfl]
  · obtain ⟨n, rfl⟩ := Int.eq_ofNat_of_zero_le (show 0 ≤ at_ by omega)
    by_cases h1 : (n : Int) > (b.length : Int)
    · rw [if_pos (.inr h1)]
      refine Ev.congr (fun k => by rw [varint_Get.f, if_neg h0, decide_eq_true h1]) (Ev.step (f := fun _ => some (0, 0, 2)) (fun k => ?_) (Ev.now _))
      rw [varint_Get.j0, if_pos rfl]
    · rw [if_neg (by omega)]
      have hn : n ≤ b.length := by omega
      rw [Int.toNat_natCast]
      refine Ev.congr (fun k => by rw [varint_Get.f, if_neg h0, decide_eq_false h1]) ?_
      refine Ev.step (f := fun k => (varint_width.f k (b.drop n)).bind fun t109 => (if t109 = 0 then (some (0, 0, 5)) else (if t109 > 9 then (some (0, 0, 4)) else (varint_Get.l0 k b (n : Int) t109 0 t109 0)))) (fun k => ?_) ?_
      · rw [varint_Get.j0, if_neg (by decide), if_pos (show (0 : Int) ≤ (n : Int) by omega), if_pos (show (n : Int) ≤ (b.length : Int) by omega), Int.toNat_natCast]
      · cases hp : pre7 (b.drop n) with
        | none => exact Ev.bind (width_none _ (by simp; omega) hp) (Ev.congr (fun k => if_pos rfl) (Ev.now _))
        | some p =>
          obtain ⟨g1, g2, g3, g4, g5⟩ := pre7_some hp
          refine Ev.bind (width_go _ (by simp; omega) p hp) ?_
          refine Ev.congr (fun k => if_neg (show ¬ (p.length : Int) = 0 by omega)) ?_
          by_cases h9 : p.length > 9
          · refine Ev.congr (fun k => if_pos (show (p.length : Int) > 9 by omega)) ?_
            simp only [num7, if_pos h9]
            exact Ev.now _
          · refine Ev.congr (fun k => if_neg (show ¬ (p.length : Int) > 9 by omega)) ?_
            exact get_loop b p _ n hb hu hn g3 g1 (by omega) p.length 0 (by omega)
end Go.Proofs.Ytihfpmociffpeaa.Q
