import Derived.Test.YtmgliocboeifdaaGreatDoorFx1
import Derived.Test.YtmgliocboeifdaaGreatDoorFx9
import Derived.Test.YtmgliocboeifdaaGreatDoorQGen
import Derived.Test.YtmgliocboeifdaaGreatDoorFx15
import Derived.Test.YtmgliocboeifdaaGreatDoorFx2
import Derived.Test.YtmgliocboeifdaaGreatDoorFx17
import Derived.Test.YtmgliocboeifdaaGreatDoorFx16
import Derived.Test.YtmgliocboeifdaaGreatDoorFx10
import Derived.Test.YtmgliocboeifdaaGreatDoorFx18
import Derived.Test.YtmgliocboeifdaaGreatDoorFx11
import Derived.Test.YtmgliocboeifdaaGreatDoorFx19
import Derived.Test.YtmgliocboeifdaaGreatDoorFx21
import Derived.Test.YtmgliocboeifdaaGreatDoorFx12
import Derived.Test.YtmgliocboeifdaaGreatDoorFx22
import Derived.Test.YtmgliocboeifdaaGreatDoorFx23
import Derived.Test.YtmgliocboeifdaaGreatDoorFQSet05
import Derived.Test.YtmgliocboeifdaaGreatDoorFx8
import Derived.Test.YtmgliocboeifdaaGreatDoorFx14
import Derived.Test.YtmgliocboeifdaaGreatDoorFx13
namespace Go.Proofs.YtmgliocboeifdaaGreatDoor.Q
open Go.RowKit Go.Proofs.YtmgliocboeifdaaGreatDoorW.PrintWords Go.Proofs.YtmgliocboeifdaaGreatDoorW.PrintLast Go.Proofs.YtmgliocboeifdaaGreatDoorW.PrintMore Go.Proofs.YtmgliocboeifdaaGreatDoor.F
set_option linter.unusedVariables false
set_option linter.unusedSimpArgs false

def pre7 : List Int → Option (List Int)
 | [] => none
 | c :: t => if c < 128 then some [c] else (pre7 t).map (c :: ·)
def val7 : List Int → Int
 | [] => 0
 | c :: t => c % 128 + 128 * val7 t
def num7 (at_ : Int) (p : List Int) : Int × Int × Int :=
 if p.length > 9 then (0, 0, 4) else if val7 p > 4611686018427387904 then (0, 0, 4) else if p.length > 1 ∧ p.getLastD 0 = 0 then (0, 0, 3) else (val7 p, at_ + p.length, 0)
def get7 (b : List Int) (at_ : Int) : Int × Int × Int :=
 if at_ < 0 ∨ at_ > (b.length : Int) then (0, 0, 2) else
 match pre7 (b.drop at_.toNat) with
 | none => (0, 0, 5)
 | some p => num7 at_ p

theorem pre7_some {l p : List Int} (h : pre7 l = some p) : 0 < p.length ∧ p.length ≤ l.length ∧ l = p ++ l.drop p.length ∧ (∀ i (hi : i + 1 < p.length), 128 ≤ p[i]'(by omega)) ∧ p.getLastD 0 < 128 := by
 induction l generalizing p with
 | nil => simp [pre7] at h
 | cons c t ih =>
  unfold pre7 at h
  split at h
  ·rename_i hc
   cases h
   simp; omega
  ·rename_i hc
   cases hp : pre7 t with
   | none => simp [hp] at h
   | some q =>
    simp [hp] at h
    subst h
    obtain ⟨h1, h2, h3, h4, h5⟩ := ih hp
    refine ⟨by simp, by simp; omega, by simpa using h3, ?_, ?_⟩
    ·intro i hi
     cases i with
     | zero => simp; omega
     | succ i => simp; exact h4 i (by simpa using hi)
    ·cases q with
     | nil => simp at h1
     | cons y s => simpa using h5
theorem pre7_none {l : List Int} (h : pre7 l = none) : ∀ x ∈ l, 128 ≤ x := by
 induction l with
 | nil => simp
 | cons c t ih =>
  unfold pre7 at h
  split at h
  ·cases h
  ·rename_i hc
   intro x hx
   rcases List.mem_cons.1 hx with rfl | hx
   ·omega
   ·exact ih (by cases hp : pre7 t with
     | none => rfl
     | some q => simp [hp] at h) x hx
theorem val7_range (p : List Int) : 0 ≤ val7 p ∧ val7 p < 128 ^ p.length := by
 induction p with
 | nil => simp [val7]
 | cons c t ih =>
  simp only [val7, List.length_cons, Int.pow_succ]
  omega
theorem pow128 {i j : Nat} (h : i ≤ j) : (128 : Int) ^ i ≤ 128 ^ j := by
 have h1 := Nat.pow_le_pow_right (n := 128) (by decide) h
 exact_mod_cast h1
theorem val7_append (p q : List Int) : val7 (p ++ q) = val7 p + 128 ^ p.length * val7 q := by
 induction p with
 | nil => simp [val7]
 | cons c t ih =>
  simp only [List.cons_append, val7, ih, List.length_cons, Int.pow_succ]
  rw [Int.mul_add, Int.mul_comm (128 ^ t.length) 128, Int.mul_assoc]; omega

theorem get_pre {l p r : List Int} (h : l = p ++ r) (i : Nat) (hi : i < p.length) (hl : i < l.length) : l[i] = p[i] := by
 subst h; rw [List.getElem_append_left]
theorem width_go (b : List Int) (hb : b.length < 9223372036854775807) (p : List Int) (hp : pre7 b = some p) :
  Ev (fun k => varint_width.f k b) (p.length : Int) := by
 obtain ⟨h1, h2, h3, h4, h5⟩ := pre7_some hp
 have key : ∀ d (i : Nat), i + d + 1 = p.length → Ev (fun k => varint_width.l0 k b (b.length : Int) (i : Int)) (p.length : Int) := by
  intro d
  induction d with
  | zero =>
   intro i hi
   have hl : i < b.length := by omega
   have hx : rd b (i : Int) < 128 := by
    rw [rd_nat b i hl]
    have e : b[i] = p.getLastD 0 := by
     have : b[i] = p[i]'(by omega) := get_pre h3 i (by omega) hl
     rw [this, List.getLastD_eq_getLast?, List.getLast?_eq_getElem?]
     simp [show p.length - 1 = i from by omega, List.getElem?_eq_getElem (show i < p.length by omega)]
    omega
   refine Ev.step (f := fun _ => some (p.length : Int)) (fun k => ?_) (Ev.now _)
   simp only [varint_width.l0]
   rw [if_pos (show (i : Int) < b.length by omega), if_pos (show (0 : Int) ≤ i by omega), if_pos (show (i : Int) < b.length by omega), if_pos hx, w64 (by omega) (by omega)]
   congr 1; omega
  | succ d ih =>
   intro i hi
   have hl : i < b.length := by omega
   have hx : ¬ rd b (i : Int) < 128 := by
    rw [rd_nat b i hl]
    have e : b[i] = p[i]'(by omega) := get_pre h3 i (by omega) hl
    have := h4 i (by omega)
    omega
   refine Ev.step (f := fun k => varint_width.l0 k b (b.length : Int) ((i + 1 : Nat) : Int)) (fun k => ?_) (ih (i + 1) (by omega))
   rw [varint_width.l0]
   rw [if_pos (show (i : Int) < b.length by omega), if_pos (show (0 : Int) ≤ i by omega), if_pos (show (i : Int) < b.length by omega), if_neg hx, w64 (by omega) (by omega)]
   rfl
 exact key (p.length - 1) 0 (by omega)
theorem width_none (b : List Int) (hb : b.length < 9223372036854775807) (hp : pre7 b = none) :
  Ev (fun k => varint_width.f k b) 0 := by
 have hall := pre7_none hp
 have key : ∀ d (i : Nat), i + d = b.length → Ev (fun k => varint_width.l0 k b (b.length : Int) (i : Int)) 0 := by
  intro d
  induction d with
  | zero =>
   intro i hi
   refine Ev.step (f := fun _ => some (0 : Int)) (fun k => ?_) (Ev.now _)
   rw [varint_width.l0, if_neg (show ¬ (i : Int) < b.length by omega)]
  | succ d ih =>
   intro i hi
   have hl : i < b.length := by omega
   have hx : ¬ rd b (i : Int) < 128 := by
    rw [rd_nat b i hl]
    have := hall b[i] (List.getElem_mem _)
    omega
   refine Ev.step (f := fun k => varint_width.l0 k b (b.length : Int) ((i + 1 : Nat) : Int)) (fun k => ?_) (ih (i + 1) (by omega))
   rw [varint_width.l0]
   rw [if_pos (show (i : Int) < b.length by omega), if_pos (show (0 : Int) ≤ i by omega), if_pos (show (i : Int) < b.length by omega), if_neg hx, w64 (by omega) (by omega)]
   rfl
 exact key b.length 0 (by omega)
theorem and127 (c : Int) (h0 : 0 ≤ c) (h1 : c < 256) : Go.bits .and .u8 c 127 = c % 128 := by
 have h : ∀ a : Fin 256, Go.bits .and .u8 (a.val : Int) 127 = (a.val : Int) % 128 := by decide +kernel
 have h2 := h ⟨c.toNat, by omega⟩
 simp only at h2
 rwa [show ((c.toNat : Nat) : Int) = c from by omega] at h2
theorem bits_or_comm (k : IntKind) (x y : Int) : Go.bits .or k x y = Go.bits .or k y x := by
 simp only [Go.bits, BitVec.or_comm]
theorem or_digit (i : Nat) (hi : i < 9) (x c : Int) (hx0 : 0 ≤ x) (hx1 : x < 128 ^ i) (hc0 : 0 ≤ c) (hc1 : c < 256) :
  Go.bits .or .u64 x (shl .u64 (IntKind.u64.wrap (Go.bits .and .u8 c 127)) (wrap64 (7 * (i : Int)))) = x + 128 ^ i * (c % 128) := by
 have hp : (2 : Int) ^ (7 * i) = 128 ^ i := by rw [Int.pow_mul]; rfl
 have hle : (128 : Int) ^ i ≤ 128 ^ 8 := pow128 (by omega)
 have h8 : (128 : Int) ^ 8 = 72057594037927936 := by decide
 have hpos : (0 : Int) < 128 ^ i := Int.pow_pos (by decide)
 have hm0 : 0 ≤ (c % 128) * 128 ^ i := Int.mul_nonneg (by omega) (by omega)
 have hm1 : (c % 128) * 128 ^ i ≤ 127 * 128 ^ i := Int.mul_le_mul_of_nonneg_right (by omega) (by omega)
 rw [and127 c hc0 hc1, u64w (by omega) (by omega), w64 (by omega) (by omega)]
 unfold shl
 rw [show (min (7 * (i : Int)).toNat IntKind.u64.bits) = 7 * i from by simp [IntKind.bits]; omega, hp, u64w hm0 (by omega), bits_or_comm]
 rw [bits_join .u64 64 (by decide) (fun n h0 h1 => u64w h0 (by omega)) (7 * i) _ x hm0 (by rw [hp]; exact Int.mul_emod_left _ _) (by omega) hx0 (by rw [hp]; exact hx1) (by omega)]
 rw [Int.mul_comm (c % 128)]; omega
theorem get_loop (b p r : List Int) (n : Nat) (hb : b.length ≤ 140737488351232) (hu : ∀ x ∈ b, 0 ≤ x ∧ x < 256) (hn : n ≤ b.length) (hd : b.drop n = p ++ r) (h1 : 0 < p.length) (h9 : p.length ≤ 9) :
  ∀ d (i : Nat), i + d = p.length → Ev (fun k => varint_Get.l0 k b (n : Int) (p.length : Int) (val7 (p.take i)) (p.length : Int) (i : Int)) (num7 (n : Int) p) := by
 have hlen : n + p.length ≤ b.length := by
  have := congrArg List.length hd
  simp at this; omega
 have hget : ∀ i (hi : i < p.length), rd b ((n + i : Nat) : Int) = p[i] := by
  intro i hi
  rw [rd_nat b (n + i) (by omega)]
  have := get_pre hd i hi (by simp; omega)
  rw [List.getElem_drop] at this
  exact this
 have hpu : ∀ x ∈ p, 0 ≤ x ∧ x < 256 := fun x hx => hu x (List.mem_of_mem_drop (i := n) (by rw [hd]; exact List.mem_append_left _ hx))
 intro d
 induction d with
 | zero =>
  intro i hi
  have ei : i = p.length := by omega
  subst ei
  rw [List.take_length]
  have hv := val7_range p
  have hle : (128 : Int) ^ p.length ≤ 128 ^ 9 := pow128 h9
  have h9' : (128 : Int) ^ 9 = 9223372036854775808 := by decide
  refine Ev.step (f := fun _ => some (num7 (n : Int) p)) (fun k => ?_) (Ev.now _)
  rw [varint_Get.l0, if_neg (show ¬ (p.length : Int) < (p.length : Int) by omega)]
  unfold num7
  rw [if_neg (show ¬ p.length > 9 by omega)]
  by_cases hbig : val7 p > 4611686018427387904
  ·rw [if_pos hbig, if_pos hbig]
  ·rw [if_neg hbig, if_neg hbig]
   by_cases hone : (p.length : Int) > 1
   ·rw [if_pos hone]
    have e1 : wrap64 (wrap64 ((n : Int) + (p.length : Int)) - 1) = ((n + (p.length - 1) : Nat) : Int) := by
     rw [w64 (x := (n : Int) + (p.length : Int)) (by omega) (by omega), w64 (by omega) (by omega)]; omega
    rw [e1, if_pos (show (0 : Int) ≤ ((n + (p.length - 1) : Nat) : Int) by omega), if_pos (show ((n + (p.length - 1) : Nat) : Int) < (b.length : Int) by omega), hget _ (by omega)]
    have el : p.getLastD 0 = p[p.length - 1]'(by omega) := by
     rw [List.getLastD_eq_getLast?, List.getLast?_eq_getElem?]
     simp [List.getElem?_eq_getElem (show p.length - 1 < p.length by omega)]
    by_cases hz : p[p.length - 1]'(by omega) = 0
    ·rw [if_pos hz, if_pos ⟨by omega, by rw [el]; exact hz⟩]
    ·rw [if_neg hz, if_neg (fun h => hz (by rw [← el]; exact h.2)), w64 (by omega) (by omega), w64 (by omega) (by omega)]
   ·rw [if_neg hone, if_neg (fun h => hone (by have := h.1; omega)), w64 (by omega) (by omega), w64 (by omega) (by omega)]
 | succ d ih =>
  intro i hi
  have hil : i < p.length := by omega
  have hc := hpu p[i] (List.getElem_mem _)
  have hv := val7_range (p.take i)
  rw [List.length_take_of_le (by omega)] at hv
  refine Ev.step (f := fun k => varint_Get.l0 k b (n : Int) (p.length : Int) (val7 (p.take (i + 1))) (p.length : Int) ((i + 1 : Nat) : Int)) (fun k => ?_) (ih (i + 1) (by omega))
  have e1 : wrap64 ((n : Int) + (i : Int)) = ((n + i : Nat) : Int) := by rw [w64 (by omega) (by omega)]; omega
  rw [varint_Get.l0, if_pos (show (i : Int) < (p.length : Int) by omega), e1, if_pos (show (0 : Int) ≤ ((n + i : Nat) : Int) by omega), if_pos (show ((n + i : Nat) : Int) < (b.length : Int) by omega),
   if_pos (show 0 ≤ wrap64 (7 * (i : Int)) by rw [w64 (by omega) (by omega)]; omega), hget i hil, or_digit i (by omega) _ _ hv.1 hv.2 hc.1 hc.2, w64 (x := (i : Int) + 1) (by omega) (by omega)]
  rw [← take_snoc p i hil, val7_append, List.length_take_of_le (by omega)]
  simp [val7]
theorem Get_go (b : List Int) (at_ : Int) (hb : b.length ≤ 140737488351232) (hu : ∀ x ∈ b, 0 ≤ x ∧ x < 256) :
  Ev (fun k => varint_Get.f k b at_) (get7 b at_) := by
 unfold get7
 by_cases h0 : at_ < 0
 ·rw [if_pos (.inl h0)]
  refine Ev.congr (fun k => by rw [varint_Get.f, if_pos h0]) (Ev.step (f := fun _ => some (0, 0, 2)) (fun k => ?_) (Ev.now _))
  rw [varint_Get.j0, if_pos rfl]
 ·obtain ⟨n, rfl⟩ := Int.eq_ofNat_of_zero_le (show 0 ≤ at_ by omega)
  by_cases h1 : (n : Int) > (b.length : Int)
  ·rw [if_pos (.inr h1)]
   refine Ev.congr (fun k => by rw [varint_Get.f, if_neg h0, decide_eq_true h1]) (Ev.step (f := fun _ => some (0, 0, 2)) (fun k => ?_) (Ev.now _))
   rw [varint_Get.j0, if_pos rfl]
  ·rw [if_neg (by omega)]
   have hn : n ≤ b.length := by omega
   rw [Int.toNat_natCast]
   refine Ev.congr (fun k => by rw [varint_Get.f, if_neg h0, decide_eq_false h1]) ?_
   refine Ev.step (f := fun k => (varint_width.f k (b.drop n)).bind fun t109 => (if t109 = 0 then (some (0, 0, 5)) else (if t109 > 9 then (some (0, 0, 4)) else (varint_Get.l0 k b (n : Int) t109 0 t109 0)))) (fun k => ?_) ?_
   ·rw [varint_Get.j0, if_neg (by decide), if_pos (show (0 : Int) ≤ (n : Int) by omega), if_pos (show (n : Int) ≤ (b.length : Int) by omega), Int.toNat_natCast]
   ·cases hp : pre7 (b.drop n) with
    | none => exact Ev.bind (width_none _ (by simp; omega) hp) (Ev.congr (fun k => if_pos rfl) (Ev.now _))
    | some p =>
     obtain ⟨g1, g2, g3, g4, g5⟩ := pre7_some hp
     refine Ev.bind (width_go _ (by simp; omega) p hp) ?_
     refine Ev.congr (fun k => if_neg (show ¬ (p.length : Int) = 0 by omega)) ?_
     by_cases h9 : p.length > 9
     ·refine Ev.congr (fun k => if_pos (show (p.length : Int) > 9 by omega)) ?_
      simp only [num7, if_pos h9]
      exact Ev.now _
     ·refine Ev.congr (fun k => if_neg (show ¬ (p.length : Int) > 9 by omega)) ?_
      exact get_loop b p _ n hb hu hn g3 g1 (by omega) p.length 0 (by omega)

theorem Put_go (l : List Int) (a : Int) (hl : l.length + 20 < 140737488355328) (ha : a ≤ 9223372036854775807) :
  varint_Put.f l a = some (l ++ enc7 10 (max a 0)) := by
 unfold varint_Put.f
 rw [if_pos (by omega), mx_of, u64w (by omega) (by omega)]
theorem enc7_range (k : Nat) : ∀ x : Int, 0 ≤ x → x < 128 ^ k → ∀ c ∈ enc7 k x, 0 ≤ c ∧ c < 256 := by
 induction k with
 | zero => intro x _ _ c hc; simp [enc7] at hc
 | succ k ih =>
  intro x h0 h1 c hc
  rw [Int.pow_succ] at h1
  unfold enc7 at hc
  split at hc
  ·rcases List.mem_cons.1 hc with rfl | hc
   ·omega
   ·exact ih _ (by omega) (by omega) c hc
  ·have := List.mem_singleton.1 hc
   omega
theorem enc7_length (k : Nat) : ∀ x : Int, (enc7 k x).length ≤ k := by
 induction k with
 | zero => intro x; simp [enc7]
 | succ k ih =>
  intro x
  unfold enc7
  split
  ·simp; exact ih _
  ·simp

theorem rget_down (b p r : List Int) (n : Nat) (hb : b.length ≤ 140737488351232) (hu : ∀ x ∈ b, 0 ≤ x ∧ x < 256) (hn : n ≤ b.length) (hd : b.drop n = p ++ r) (h1 : 0 < p.length) (h9 : p.length ≤ 9) :
  ∀ (i : Nat), i ≤ p.length → Ev (fun k => r03_Get.l1 k b (n : Int) ((n + (p.length - 1) : Nat) : Int) (val7 (p.drop i)) ((n : Int) + (i : Int) - 1)) (num7 (n : Int) p) := by
 have hlen : n + p.length ≤ b.length := by
  have := congrArg List.length hd
  simp at this; omega
 have hget : ∀ i (hi : i < p.length), rd b ((n + i : Nat) : Int) = p[i] := by
  intro i hi
  rw [rd_nat b (n + i) (by omega)]
  have := get_pre hd i hi (by simp; omega)
  rw [List.getElem_drop] at this
  exact this
 have hpu : ∀ x ∈ p, 0 ≤ x ∧ x < 256 := fun x hx => hu x (List.mem_of_mem_drop (i := n) (by rw [hd]; exact List.mem_append_left _ hx))
 intro i
 induction i with
 | zero =>
  intro _
  have hv := val7_range p
  have hle : (128 : Int) ^ p.length ≤ 128 ^ 9 := pow128 h9
  have h9' : (128 : Int) ^ 9 = 9223372036854775808 := by decide
  refine Ev.step (f := fun _ => some (num7 (n : Int) p)) (fun k => ?_) (Ev.now _)
  rw [r03_Get.l1, if_neg (show ¬ (n : Int) + ((0 : Nat) : Int) - 1 ≥ (n : Int) by omega), List.drop_zero]
  unfold num7
  rw [if_neg (show ¬ p.length > 9 by omega)]
  by_cases hbig : val7 p > 4611686018427387904
  ·rw [if_pos hbig, if_pos hbig]
  ·rw [if_neg hbig, if_neg hbig]
   by_cases hone : p.length > 1
   ·rw [if_pos (show ((n + (p.length - 1) : Nat) : Int) > (n : Int) by omega), if_pos (show (0 : Int) ≤ ((n + (p.length - 1) : Nat) : Int) by omega), if_pos (show ((n + (p.length - 1) : Nat) : Int) < (b.length : Int) by omega), hget _ (by omega)]
    have el : p.getLastD 0 = p[p.length - 1]'(by omega) := by
     rw [List.getLastD_eq_getLast?, List.getLast?_eq_getElem?]
     simp [List.getElem?_eq_getElem (show p.length - 1 < p.length by omega)]
    by_cases hz : p[p.length - 1]'(by omega) = 0
    ·rw [if_pos hz, if_pos ⟨by omega, by rw [el]; exact hz⟩]
    ·rw [if_neg hz, if_neg (fun h => hz (by rw [← el]; exact h.2)), w64 (by omega) (by omega)]
     congr 3; omega
   ·rw [if_neg (show ¬ ((n + (p.length - 1) : Nat) : Int) > (n : Int) by omega), if_neg (fun h => hone h.1), w64 (by omega) (by omega)]
    congr 3; omega
 | succ i ih =>
  intro hi
  have hc := hpu p[i] (List.getElem_mem _)
  have hv := val7_range (p.drop (i + 1))
  have hle : (128 : Int) ^ (p.drop (i + 1)).length ≤ 128 ^ 8 := pow128 (by simp; omega)
  have h8' : (128 : Int) ^ 8 = 72057594037927936 := by decide
  have hx : (n : Int) + ((i + 1 : Nat) : Int) - 1 = ((n + i : Nat) : Int) := by omega
  refine Ev.step (f := fun k => r03_Get.l1 k b (n : Int) ((n + (p.length - 1) : Nat) : Int) (val7 (p.drop i)) ((n : Int) + (i : Int) - 1)) (fun k => ?_) (ih (by omega))
  rw [r03_Get.l1, hx, if_pos (show ((n + i : Nat) : Int) ≥ (n : Int) by omega), if_pos (show (0 : Int) ≤ ((n + i : Nat) : Int) by omega), if_pos (show ((n + i : Nat) : Int) < (b.length : Int) by omega), hget i (by omega)]
  rw [w64 (x := p[i]) (by omega) (by omega), Int.tmod_eq_emod_of_nonneg hc.1, w64 (x := val7 _ * 128) (by omega) (by omega), w64 (by omega) (by omega), w64 (x := ((n + i : Nat) : Int) - 1) (by omega) (by omega)]
  rw [drop_cons p i (by omega)]
  simp only [val7]
  rw [show val7 (p.drop (i + 1)) * 128 + p[i] % 128 = p[i] % 128 + 128 * val7 (p.drop (i + 1)) from by omega, show ((n + i : Nat) : Int) - 1 = (n : Int) + (i : Int) - 1 from by omega]
theorem rget_up (b : List Int) (n : Nat) (hb : b.length ≤ 140737488351232) (hn : n ≤ b.length) (p : List Int) (hp : pre7 (b.drop n) = some p) :
  ∀ d (i : Nat), i + d + 1 = p.length → ∀ r, Ev (fun k => r03_Get.j2 k b (n : Int) ((n + (p.length - 1) : Nat) : Int)) r → Ev (fun k => r03_Get.l0 k b (n : Int) ((n + i : Nat) : Int)) r := by
 obtain ⟨h1, h2, h3, h4, h5⟩ := pre7_some hp
 have hlen : n + p.length ≤ b.length := by simp at h2; omega
 have hget : ∀ i (hi : i < p.length), rd b ((n + i : Nat) : Int) = p[i] := by
  intro i hi
  rw [rd_nat b (n + i) (by omega)]
  have := get_pre h3 i hi (by simp; omega)
  rw [List.getElem_drop] at this
  exact this
 intro d
 induction d with
 | zero =>
  intro i hi r hr
  have el : p.getLastD 0 = p[i]'(by omega) := by
   rw [List.getLastD_eq_getLast?, List.getLast?_eq_getElem?]
   simp [show p.length - 1 = i from by omega, List.getElem?_eq_getElem (show i < p.length by omega)]
  refine Ev.step (f := fun k => r03_Get.j2 k b (n : Int) ((n + (p.length - 1) : Nat) : Int)) (fun k => ?_) hr
  rw [r03_Get.l0, if_pos (show ((n + i : Nat) : Int) < (b.length : Int) by omega), if_pos (show (0 : Int) ≤ ((n + i : Nat) : Int) by omega), hget i (by omega), if_neg (show ¬ p[i]'(by omega) ≥ 128 by rw [← el]; omega)]
  rw [show n + i = n + (p.length - 1) from by omega]
 | succ d ih =>
  intro i hi r hr
  have h128 := h4 i (by omega)
  refine Ev.step (f := fun k => r03_Get.l0 k b (n : Int) ((n + (i + 1) : Nat) : Int)) (fun k => ?_) (ih (i + 1) (by omega) r hr)
  rw [r03_Get.l0, if_pos (show ((n + i : Nat) : Int) < (b.length : Int) by omega), if_pos (show (0 : Int) ≤ ((n + i : Nat) : Int) by omega), hget i (by omega), if_pos (show p[i]'(by omega) ≥ 128 from h128), w64 (by omega) (by omega)]
  rw [show ((n + i : Nat) : Int) + 1 = ((n + (i + 1) : Nat) : Int) from by omega]
theorem rget_none (b : List Int) (n : Nat) (hb : b.length ≤ 140737488351232) (hn : n ≤ b.length) (hp : pre7 (b.drop n) = none) :
  ∀ d (i : Nat), i + d = b.length → n ≤ i → Ev (fun k => r03_Get.l0 k b (n : Int) (i : Int)) (0, 0, 5) := by
 have hall := pre7_none hp
 intro d
 induction d with
 | zero =>
  intro i hi hni
  refine Ev.step (f := fun k => r03_Get.j2 k b (n : Int) (i : Int)) (fun k => ?_) ?_
  ·rw [r03_Get.l0, if_neg (show ¬ (i : Int) < (b.length : Int) by omega)]
  ·refine Ev.step (f := fun _ => some (0, 0, 5)) (fun k => ?_) (Ev.now _)
   rw [r03_Get.j2, if_pos (show (i : Int) = (b.length : Int) by omega)]
 | succ d ih =>
  intro i hi hni
  have h128 : 128 ≤ rd b (i : Int) := by
   rw [rd_nat b i (by omega)]
   refine hall _ ?_
   have : b[i]'(by omega) = (b.drop n)[i - n]'(by simp; omega) := by
    rw [List.getElem_drop]; congr 1; omega
   rw [this]; exact List.getElem_mem _
  refine Ev.step (f := fun k => r03_Get.l0 k b (n : Int) ((i + 1 : Nat) : Int)) (fun k => ?_) (ih (i + 1) (by omega) (by omega))
  rw [r03_Get.l0, if_pos (show (i : Int) < (b.length : Int) by omega), if_pos (show (0 : Int) ≤ (i : Int) by omega), if_pos (show rd b (i : Int) ≥ 128 from h128), w64 (by omega) (by omega)]
  rfl
theorem rGet_go (b : List Int) (at_ : Int) (hb : b.length ≤ 140737488351232) (hu : ∀ x ∈ b, 0 ≤ x ∧ x < 256) :
  Ev (fun k => r03_Get.f k b at_) (get7 b at_) := by
 unfold get7
 by_cases h0 : at_ < 0
 ·rw [if_pos (.inl h0)]
  refine Ev.congr (fun k => by rw [r03_Get.f, if_pos h0]) (Ev.step (f := fun _ => some (0, 0, 2)) (fun k => ?_) (Ev.now _))
  rw [r03_Get.j0, if_pos rfl]
 ·obtain ⟨n, rfl⟩ := Int.eq_ofNat_of_zero_le (show 0 ≤ at_ by omega)
  by_cases h1 : (n : Int) > (b.length : Int)
  ·rw [if_pos (.inr h1)]
   refine Ev.congr (fun k => by rw [r03_Get.f, if_neg h0, decide_eq_true h1]) (Ev.step (f := fun _ => some (0, 0, 2)) (fun k => ?_) (Ev.now _))
   rw [r03_Get.j0, if_pos rfl]
  ·rw [if_neg (by omega)]
   have hn : n ≤ b.length := by omega
   rw [Int.toNat_natCast]
   refine Ev.congr (fun k => by rw [r03_Get.f, if_neg h0, decide_eq_false h1]) ?_
   refine Ev.step (f := fun k => r03_Get.l0 k b (n : Int) (n : Int)) (fun k => ?_) ?_
   ·rw [r03_Get.j0, if_neg (by decide)]
   ·cases hp : pre7 (b.drop n) with
    | none => exact rget_none b n hb hn hp (b.length - n) n (by omega) (Nat.le_refl _)
    | some p =>
     obtain ⟨g1, g2, g3, g4, g5⟩ := pre7_some hp
     have hlen : n + p.length ≤ b.length := by simp at g2; omega
     refine rget_up b n hb hn p hp (p.length - 1) 0 (by omega) _ ?_
     show Ev _ (num7 (n : Int) p)
     by_cases h9 : p.length > 9
     ·refine Ev.step (f := fun _ => some (num7 (n : Int) p)) (fun k => ?_) (Ev.now _)
      rw [r03_Get.j2, if_neg (show ¬ ((n + (p.length - 1) : Nat) : Int) = (b.length : Int) by omega), w64 (by omega) (by omega), if_pos (show ((n + (p.length - 1) : Nat) : Int) - (n : Int) > 8 by omega)]
      simp only [num7, if_pos h9]
     ·refine Ev.step (f := fun k => r03_Get.l1 k b (n : Int) ((n + (p.length - 1) : Nat) : Int) 0 ((n + (p.length - 1) : Nat) : Int)) (fun k => ?_) ?_
      ·rw [r03_Get.j2, if_neg (show ¬ ((n + (p.length - 1) : Nat) : Int) = (b.length : Int) by omega), w64 (by omega) (by omega), if_neg (show ¬ ((n + (p.length - 1) : Nat) : Int) - (n : Int) > 8 by omega)]
      ·have := rget_down b p _ n hb hu hn g3 g1 (by omega) p.length (Nat.le_refl _)
       rw [List.drop_length, show (n : Int) + (p.length : Int) - 1 = ((n + (p.length - 1) : Nat) : Int) from by omega] at this
       exact this

theorem num7_ok {at_ : Int} {p : List Int} (hp : 0 < p.length) (h : (num7 at_ p).2.2 = 0) : p.length ≤ 9 ∧ val7 p ≤ 4611686018427387904 ∧ (num7 at_ p) = (val7 p, at_ + p.length, 0) := by
 unfold num7 at h ⊢
 by_cases h9 : p.length > 9
 ·rw [if_pos h9] at h; cases h
 ·rw [if_neg h9] at h ⊢
  by_cases hb : val7 p > 4611686018427387904
  ·rw [if_pos hb] at h; cases h
  ·rw [if_neg hb] at h ⊢
   by_cases hz : p.length > 1 ∧ p.getLastD 0 = 0
   ·rw [if_pos hz] at h; cases h
   ·rw [if_neg hz]; exact ⟨by omega, by omega, rfl⟩
theorem get7_ok {b : List Int} {at_ : Int} (h : (get7 b at_).2.2 = 0) :
  0 ≤ at_ ∧ at_ ≤ (b.length : Int) ∧ ∃ p, pre7 (b.drop at_.toNat) = some p ∧ p.length ≤ 9 ∧ get7 b at_ = (val7 p, at_ + p.length, 0) ∧ 0 < p.length ∧ 0 ≤ val7 p ∧ val7 p ≤ 4611686018427387904 ∧ at_ + p.length ≤ (b.length : Int) := by
 unfold get7 at h ⊢
 by_cases h0 : at_ < 0 ∨ at_ > (b.length : Int)
 ·rw [if_pos h0] at h; cases h
 ·rw [if_neg h0] at h ⊢
  cases hp : pre7 (b.drop at_.toNat) with
  | none => rw [hp] at h; cases h
  | some p =>
   rw [hp] at h
   obtain ⟨g1, g2, g3, g4, g5⟩ := pre7_some hp
   obtain ⟨h1, h2, h3⟩ := num7_ok g1 h
   have hv := val7_range p
   simp at g2
   exact ⟨by omega, by omega, p, rfl, h1, h3, g1, hv.1, h2, by omega⟩
def getS (b : List Int) (at_ most : Int) : ByteArray × Int × Int :=
 let g := get7 b at_
 if g.2.2 = 0 then (if g.1 > most then (⟨#[]⟩, 0, 4) else if (b.length : Int) - g.2.1 < g.1 then (⟨#[]⟩, 0, 5) else (strOfNums ((b.take (g.2.1 + g.1).toNat).drop g.2.1.toNat), g.2.1 + g.1, 0)) else (⟨#[]⟩, 0, g.2.2)
def getLs (b : List Int) : Nat → Bool → Int → Int → List Int → List Int × Int × Int
 | 0, _, _, at_, acc => (acc, at_, 0)
 | r + 1, more, last, at_, acc =>
  if (get7 b at_).2.2 = 0 then
   (if more = true ∧ (get7 b at_).1 = 0 then ([], 0, 3) else if (get7 b at_).1 > 4611686018427387904 - last then ([], 0, 4) else getLs b r true (last + (get7 b at_).1) (get7 b at_).2.1 (acc ++ [last + (get7 b at_).1]))
  else ([], 0, (get7 b at_).2.2)
def getL (b : List Int) (at_ most : Int) : List Int × Int × Int :=
 if (get7 b at_).2.2 = 0 then (if (get7 b at_).1 > most then ([], 0, 4) else getLs b (get7 b at_).1.toNat false 0 (get7 b at_).2.1 []) else ([], 0, (get7 b at_).2.2)

theorem GetString_go (b : List Int) (at_ most : Int) (hb : b.length ≤ 140737488351232) (hu : ∀ x ∈ b, 0 ≤ x ∧ x < 256) :
  Ev (fun k => varint_GetString.f k b at_ most) (getS b at_ most) := by
 refine Ev.congr (fun k => by rw [varint_GetString.f]) (Ev.bind (Get_go b at_ hb hu) ?_)
 unfold getS
 by_cases he : (get7 b at_).2.2 = 0
 ·obtain ⟨g0, g1, p, _, _, g2, g3, g4, g5, g6⟩ := get7_ok he
  rw [g2]
  refine Ev.ite_pos rfl ?_
  simp only [if_true]
  by_cases h1 : val7 p > most
  ·simp only [if_pos h1]; exact Ev.now _
  ·simp only [if_neg h1]
   refine Ev.congr (fun k => by rw [w64 (x := (b.length : Int) - (at_ + (p.length : Int))) (by omega) (by omega)]) ?_
   by_cases h2 : (b.length : Int) - (at_ + p.length) < val7 p
   ·simp only [if_pos h2]; exact Ev.now _
   ·simp only [if_neg h2]
    refine (Ev.congr (fun k => by rw [w64 (x := at_ + (p.length : Int) + val7 p) (by omega) (by omega)]) ?_)
    exact Ev.ite_pos (by omega) (Ev.ite_pos (by omega) (Ev.ite_pos (by omega) (Ev.now _)))
 ·refine Ev.ite_neg he ?_
  simp only [if_neg he]
  exact Ev.now _
theorem list_go (b : List Int) (hb : b.length ≤ 140737488351232) (hu : ∀ x ∈ b, 0 ≤ x ∧ x < 256) (hs : b.length ≤ 17592186000000) (n : Int) (hn : n ≤ 4611686018427387904) :
  ∀ (r : Nat) (i : Int) (last at_ : Int) (acc : List Int), i + r = n → 0 ≤ i → 0 ≤ last → last ≤ 4611686018427387904 → (acc.length : Int) ≤ at_ → at_ ≤ (b.length : Int) →
   Ev (fun k => varint_GetList.l0 k b at_ acc last n i) (getLs b r (decide (i > 0)) last at_ acc) := by
 intro r
 induction r with
 | zero =>
  intro i last at_ acc hi h0 hl hl2 ha hab
  refine Ev.step (f := fun _ => some (acc, at_, 0)) (fun k => ?_) (Ev.now _)
  rw [varint_GetList.l0, if_neg (show ¬ i < n by omega)]
 | succ r ih =>
  intro i last at_ acc hi h0 hl hl2 ha hab
  refine Ev.step (fun k => by rw [varint_GetList.l0, if_pos (show i < n by omega)]) (Ev.bind (Get_go b at_ hb hu) ?_)
  rw [getLs]
  by_cases he : (get7 b at_).2.2 = 0
  ·obtain ⟨g0, g1, p, _, _, g2, g3, g4, g5, g6⟩ := get7_ok he
   rw [g2]
   refine Ev.ite_pos rfl ?_
   rw [if_pos rfl]
   have tail : ∀ x50 : Bool, x50 = decide ((decide (i > 0)) = true ∧ val7 p = 0) → Ev (fun k => varint_GetList.j1 k b acc last (val7 p) (at_ + p.length) n i x50) (if (decide (i > 0)) = true ∧ val7 p = 0 then ([], 0, 3) else if val7 p > 4611686018427387904 - last then ([], 0, 4) else getLs b r true (last + val7 p) (at_ + p.length) (acc ++ [last + val7 p])) := by
    intro x50 hx
    by_cases hz : (decide (i > 0)) = true ∧ val7 p = 0
    ·rw [if_pos hz]
     refine Ev.step (f := fun _ => some (([] : List Int), 0, 3)) (fun k => ?_) (Ev.now _)
     rw [varint_GetList.j1, if_pos (by rw [hx]; exact decide_eq_true hz)]
    ·rw [if_neg hz]
     refine Ev.step (fun k => by rw [varint_GetList.j1, if_neg (by rw [hx, decide_eq_false hz]; decide), w64 (x := 4611686018427387904 - last) (by omega) (by omega)]) ?_
     by_cases hg : val7 p > 4611686018427387904 - last
     ·simp only [if_pos hg]; exact Ev.now _
     ·simp only [if_neg hg]
      refine (Ev.ite_pos (show acc.length < 17592186044416 by omega) ?_)
      have := ih (i + 1) (last + val7 p) (at_ + p.length) (acc ++ [last + val7 p]) (by omega) (by omega) (by omega) (by omega) (by simp; omega) g6
      rw [decide_eq_true (show i + 1 > 0 by omega)] at this
      refine Ev.congr (fun k => ?_) this
      rw [w64 (by omega) (by omega), w64 (x := i + 1) (by omega) (by omega)]
   by_cases hi0 : i > 0
   ·refine Ev.ite_pos hi0 (tail _ ?_)
    by_cases hv : val7 p = 0 <;> simp [hi0, hv]
   ·refine Ev.ite_neg hi0 (tail _ ?_)
    simp [hi0]
  ·refine Ev.ite_neg he ?_
   rw [if_neg he]
   exact Ev.now _
theorem GetList_go (b : List Int) (at_ most : Int) (hs : b.length ≤ 17592186000000) (hu : ∀ x ∈ b, 0 ≤ x ∧ x < 256) :
  Ev (fun k => varint_GetList.f k b at_ most) (getL b at_ most) := by
 refine Ev.congr (fun k => by rw [varint_GetList.f]) (Ev.bind (Get_go b at_ (by omega) hu) ?_)
 unfold getL
 by_cases he : (get7 b at_).2.2 = 0
 ·obtain ⟨g0, g1, p, _, _, g2, g3, g4, g5, g6⟩ := get7_ok he
  rw [g2]
  refine Ev.ite_pos rfl ?_
  rw [if_pos rfl]
  by_cases h1 : val7 p > most
  ·simp only [if_pos h1]; exact Ev.now _
  ·simp only [if_neg h1]
   exact list_go b (by omega) hu hs (val7 p) g5 (val7 p).toNat 0 0 (at_ + p.length) [] (by omega) (by omega) (by omega) (by omega) (by simp; omega) g6
 ·refine Ev.ite_neg he ?_
  rw [if_neg he]
  exact Ev.now _

theorem rput_digits : ∀ (j : Nat) (x : Int) (l : List Int), 0 ≤ x → x < 128 ^ (j + 1) → x < 9223372036854775808 → l.length + j + 1 < 140737488355328 → Ev (fun k => r03_Put.l1 k l x) (l ++ enc7 (j + 1) x) := by
 intro j
 induction j with
 | zero =>
  intro x l h0 h1 h2 h3
  have hn : ¬ x ≥ 128 := by omega
  refine Ev.step (f := fun _ => some (l ++ enc7 1 x)) (fun k => ?_) (Ev.now _)
  rw [r03_Put.l1, enc7, if_neg hn, if_neg hn, if_pos (show l.length < 140737488355328 by omega), show x % 256 = x from by omega]
 | succ j ih =>
  intro x l h0 h1 h2 h3
  rw [enc7]
  by_cases h : x ≥ 128
  ·rw [if_pos h]
   have := ih (x / 128) (l ++ [x % 128 + 128]) (by omega) (by rw [Int.pow_succ] at h1; omega) (by omega) (by simp; omega)
   rw [List.append_assoc] at this
   refine Ev.step (fun k => ?_) this
   rw [r03_Put.l1, if_pos h, if_pos (show l.length < 140737488355328 by omega), Int.tmod_eq_emod_of_nonneg h0, Int.tdiv_eq_ediv_of_nonneg h0, w64 (by omega) (by omega), w64 (x := x / 128) (by omega) (by omega), show (x % 128 + 128) % 256 = x % 128 + 128 from by omega]
  ·rw [if_neg h]
   refine Ev.step (f := fun _ => some (l ++ [x])) (fun k => ?_) (Ev.now _)
   rw [r03_Put.l1, if_neg h, if_pos (show l.length < 140737488355328 by omega), show x % 256 = x from by omega]
theorem rPut_go (l : List Int) (a : Int) (hl : l.length + 20 < 140737488355328) (ha : a ≤ 9223372036854775807) :
  Ev (fun k => r03_Put.f k l a) (l ++ enc7 10 (max a 0)) := by
 have key : ∀ d (i : Nat), i + d = l.length → Ev (fun k => r03_Put.l0 k l a (l.take i) (i : Int)) (l ++ enc7 10 (max a 0)) := by
  intro d
  induction d with
  | zero =>
   intro i hi
   refine Ev.step (f := fun k => r03_Put.l1 k l (max a 0)) (fun k => ?_) (rput_digits 9 (max a 0) l (by omega) (Int.lt_of_lt_of_le (show max a 0 < 18446744073709551616 by omega) (by decide)) (by omega) (by omega))
   rw [r03_Put.l0, if_neg (show ¬ (i : Int) < (l.length : Int) by omega), mx_of, List.take_of_length_le (by omega)]
  | succ d ih =>
   intro i hi
   refine Ev.step (f := fun k => r03_Put.l0 k l a (l.take (i + 1)) ((i + 1 : Nat) : Int)) (fun k => ?_) (ih (i + 1) (by omega))
   rw [r03_Put.l0, if_pos (show (i : Int) < (l.length : Int) by omega), if_pos (show (0 : Int) ≤ (i : Int) by omega), if_pos (show (l.take i).length < 140737488355328 by simp; omega), rd_nat l i (by omega), take_snoc l i (by omega), w64 (by omega) (by omega)]
   rfl
 have := key l.length 0 (by omega)
 rwa [List.take_zero] at this

theorem rGetString_go (b : List Int) (at_ most : Int) (hb : b.length ≤ 140737488351232) (hu : ∀ x ∈ b, 0 ≤ x ∧ x < 256) :
  Ev (fun k => r03_GetString.f k b at_ most) (getS b at_ most) := by
 refine Ev.congr (fun k => by rw [r03_GetString.f]) (Ev.bind (rGet_go b at_ hb hu) ?_)
 unfold getS
 by_cases he : (get7 b at_).2.2 = 0
 ·obtain ⟨g0, g1, p, _, _, g2, g3, g4, g5, g6⟩ := get7_ok he
  rw [g2]
  refine Ev.ite_pos rfl ?_
  simp only [if_true]
  by_cases h1 : val7 p > most
  ·simp only [if_pos h1]; exact Ev.now _
  ·simp only [if_neg h1]
   refine Ev.congr (fun k => by rw [w64 (x := (b.length : Int) - (at_ + (p.length : Int))) (by omega) (by omega)]) ?_
   by_cases h2 : (b.length : Int) - (at_ + p.length) < val7 p
   ·simp only [gt_iff_lt, if_pos h2]; exact Ev.now _
   ·simp only [gt_iff_lt, if_neg h2]
    refine (Ev.congr (fun k => by rw [w64 (x := at_ + (p.length : Int) + val7 p) (by omega) (by omega)]) ?_)
    exact Ev.ite_pos (by omega) (Ev.ite_pos (by omega) (Ev.ite_pos (by omega) (Ev.now _)))
 ·refine Ev.ite_neg he ?_
  simp only [if_neg he]
  exact Ev.now _
theorem rlist_go (b : List Int) (hb : b.length ≤ 140737488351232) (hu : ∀ x ∈ b, 0 ≤ x ∧ x < 256) (hs : b.length ≤ 17592186000000) (n : Int) (hn : n ≤ 4611686018427387904) :
  ∀ (r : Nat) (i : Int) (last at_ : Int) (acc : List Int), i + r = n → 0 ≤ i → 0 ≤ last → last ≤ 4611686018427387904 → (acc.length : Int) = i → last = acc.getLastD 0 → i ≤ at_ → at_ ≤ (b.length : Int) →
   Ev (fun k => r03_GetList.l0 k b n at_ acc i) (getLs b r (decide (i > 0)) last at_ acc) := by
 intro r
 induction r with
 | zero =>
  intro i last at_ acc hi h0 hl hl2 hia hla ha hab
  refine Ev.step (f := fun _ => some (acc, at_, 0)) (fun k => ?_) (Ev.now _)
  rw [r03_GetList.l0, if_neg (show ¬ i < n by omega)]
 | succ r ih =>
  intro i last at_ acc hi h0 hl hl2 hia hla ha hab
  refine Ev.step (fun k => by rw [r03_GetList.l0, if_pos (show i < n by omega)]) (Ev.bind (rGet_go b at_ hb hu) ?_)
  rw [getLs]
  by_cases he : (get7 b at_).2.2 = 0
  ·obtain ⟨g0, g1, p, _, _, g2, g3, g4, g5, g6⟩ := get7_ok he
   rw [g2]
   refine Ev.ite_pos rfl ?_
   rw [if_pos rfl]
   by_cases hi0 : i > 0
   ·have hlast : rd acc (i - 1) = last := by
     have hl1 : acc.length - 1 < acc.length := by omega
     rw [show i - 1 = ((acc.length - 1 : Nat) : Int) from by omega, rd_nat acc _ hl1, hla, List.getLastD_eq_getLast?, List.getLast?_eq_getElem?, List.getElem?_eq_getElem hl1]
     rfl
    have ewi : wrap64 (i - 1) = i - 1 := w64 (by omega) (by omega)
    refine Ev.ite_pos hi0 ?_
    by_cases hv : val7 p = 0
    ·rw [if_pos ⟨decide_eq_true hi0, hv⟩]
     refine Ev.step (f := fun _ => some (([] : List Int), 0, 3)) (fun k => ?_) (Ev.now _)
     rw [r03_GetList.j1, if_pos (by simp [hv])]
    ·rw [if_neg (fun h => hv h.2)]
     refine Ev.step (fun k => by rw [r03_GetList.j1, if_neg (by simp [hv]), if_pos hi0, ewi, if_pos (show 0 ≤ i - 1 by omega), if_pos (show i - 1 < (acc.length : Int) by omega), hlast, w64 (x := 4611686018427387904 - last) (by omega) (by omega)]) ?_
     by_cases hg : val7 p > 4611686018427387904 - last
     ·rw [if_pos hg]
      refine Ev.step (f := fun _ => some (([] : List Int), 0, 4)) (fun k => ?_) (Ev.now _)
      rw [r03_GetList.j2, if_pos (decide_eq_true hg)]
     ·rw [if_neg hg]
      have := ih (i + 1) (last + val7 p) (at_ + p.length) (acc ++ [last + val7 p]) (by omega) (by omega) (by omega) (by omega) (by simp; omega) (by simp) (by omega) g6
      rw [decide_eq_true (show i + 1 > 0 by omega)] at this
      refine Ev.step (fun k => ?_) this
      rw [r03_GetList.j2, if_neg (by rw [decide_eq_false hg]; decide), if_pos hi0, ewi, if_pos (show 0 ≤ i - 1 by omega), if_pos (show i - 1 < (acc.length : Int) by omega), if_pos (show acc.length < 17592186044416 by omega), hlast, w64 (x := val7 p + last) (by omega) (by omega), w64 (x := i + 1) (by omega) (by omega), Int.add_comm (val7 p) last]
   ·have hi00 : i = 0 := by omega
    have hacc : acc = [] := List.eq_nil_of_length_eq_zero (by omega)
    have hl0 : last = 0 := by rw [hla, hacc]; rfl
    refine Ev.ite_neg hi0 ?_
    rw [if_neg (fun h => hi0 (of_decide_eq_true h.1))]
    have hg : ¬ val7 p > 4611686018427387904 - last := by omega
    rw [if_neg hg]
    have := ih (i + 1) (last + val7 p) (at_ + p.length) (acc ++ [last + val7 p]) (by omega) (by omega) (by omega) (by omega) (by simp; omega) (by simp) (by omega) g6
    rw [decide_eq_true (show i + 1 > 0 by omega)] at this
    refine Ev.step (fun k => by rw [r03_GetList.j1, if_neg (by decide), if_neg hi0]) (Ev.step (fun k => ?_) this)
    rw [r03_GetList.j2, if_neg (by decide), if_neg hi0, if_pos (show acc.length < 17592186044416 by omega), w64 (x := i + 1) (by omega) (by omega), show last + val7 p = val7 p from by omega]
  ·refine Ev.ite_neg he ?_
   rw [if_neg he]
   exact Ev.now _
theorem rGetList_go (b : List Int) (at_ most : Int) (hs : b.length ≤ 17592186000000) (hu : ∀ x ∈ b, 0 ≤ x ∧ x < 256) :
  Ev (fun k => r03_GetList.f k b at_ most) (getL b at_ most) := by
 refine Ev.congr (fun k => by rw [r03_GetList.f]) (Ev.bind (rGet_go b at_ (by omega) hu) ?_)
 unfold getL
 by_cases he : (get7 b at_).2.2 = 0
 ·obtain ⟨g0, g1, p, _, _, g2, g3, g4, g5, g6⟩ := get7_ok he
  rw [g2]
  refine Ev.ite_pos rfl ?_
  rw [if_pos rfl]
  by_cases h1 : val7 p > most
  ·simp only [if_pos h1]; exact Ev.now _
  ·simp only [if_neg h1]
   exact rlist_go b (by omega) hu hs (val7 p) g5 (val7 p).toNat 0 0 (at_ + p.length) [] (by omega) (by omega) (by omega) (by omega) (by simp) rfl (by omega) g6
 ·refine Ev.ite_neg he ?_
  rw [if_neg he]
  exact Ev.now _

def okL (lo : Int) : List Int → Bool
 | [] => true
 | x :: t => decide (lo < x) && okL x t
def encL : Int → List Int → List Int
 | _, [] => []
 | last, x :: t => enc7 10 (x - last) ++ encL x t
def putL (l0 l : List Int) : List Int × Int := if okL (-1) l = true then (l0 ++ enc7 10 (l.length : Int) ++ encL 0 l, 0) else ([], 1)
def prevL (l : List Int) (i : Nat) (z : Int) : Int := if i = 0 then z else l.getD (i - 1) 0
theorem prevL_succ (l : List Int) (i : Nat) (z : Int) (h : i < l.length) : prevL l (i + 1) z = l[i] := by
 simp [prevL, List.getD_eq_getElem?_getD, List.getElem?_eq_getElem h]
theorem encL_length (l : List Int) : ∀ last : Int, (encL last l).length ≤ 10 * l.length := by
 induction l with
 | nil => intro last; simp [encL]
 | cons x t ih =>
  intro last
  have := ih x
  have := enc7_length 10 (x - last)
  simp [encL]; omega
theorem plist_put (l : List Int) (hw : ∀ x ∈ l, -9223372036854775808 ≤ x ∧ x ≤ 9223372036854775807) (hlen : l.length ≤ 140737488355328) :
  ∀ d (i : Nat) (acc : List Int), i + d = l.length → acc.length + 10 * d + 20 < 140737488355328 → 0 ≤ prevL l i 0 → okL (prevL l i (-1)) (l.drop i) = true →
   Ev (fun k => varint_PutList.l1 k l acc (prevL l i 0) (l.length : Int) (i : Int)) (acc ++ encL (prevL l i 0) (l.drop i), 0) := by
 intro d
 induction d with
 | zero =>
  intro i acc hi ha hp hok
  refine Ev.step (f := fun _ => some (acc ++ encL (prevL l i 0) (l.drop i), 0)) (fun k => ?_) (Ev.now _)
  rw [varint_PutList.l1, if_neg (show ¬ (i : Int) < (l.length : Int) by omega), List.drop_of_length_le (by omega)]
  simp [encL]
 | succ d ih =>
  intro i acc hi ha hp hok
  have hl : i < l.length := by omega
  have hx := hw l[i] (List.getElem_mem _)
  rw [drop_cons l i hl] at hok ⊢
  simp only [okL, Bool.and_eq_true, decide_eq_true_eq] at hok
  have hge : prevL l i 0 ≤ l[i] := by
   unfold prevL at hp hok ⊢
   split
   ·rename_i h0; rw [if_pos h0] at hok; omega
   ·rename_i h0; rw [if_neg h0] at hok; omega
  have h0' : 0 ≤ l[i] := by omega
  have hps := prevL_succ l i 0 hl
  have hen := enc7_length 10 (l[i] - prevL l i 0)
  have := ih (i + 1) (acc ++ enc7 10 (l[i] - prevL l i 0)) (by omega) (by simp; omega) (by rw [hps]; exact h0') (by rw [prevL_succ l i (-1) hl]; exact hok.2)
  rw [hps] at this
  refine Ev.step (f := fun k => varint_PutList.l1 k l (acc ++ enc7 10 (l[i] - prevL l i 0)) l[i] (l.length : Int) ((i + 1 : Nat) : Int)) (fun k => ?_) ?_
  ·rw [varint_PutList.l1, if_pos (show (i : Int) < (l.length : Int) by omega), if_pos (show (0 : Int) ≤ (i : Int) by omega), if_pos (show (i : Int) < (l.length : Int) by omega), rd_nat l i hl, w64 (by omega) (by omega), Put_go acc _ (by omega) (by omega), w64 (x := (i : Int) + 1) (by omega) (by omega)]
   rw [show max (l[i] - prevL l i 0) 0 = l[i] - prevL l i 0 from by omega]
   rfl
  ·simp only [encL]
   rw [← List.append_assoc]; exact this
theorem plist_check (l0 l : List Int) (h0 : l0.length + 10 * l.length + 40 < 140737488355328) (hw : ∀ x ∈ l, -9223372036854775808 ≤ x ∧ x ≤ 9223372036854775807) (hlen : l.length ≤ 140737488355328) :
  ∀ d (i : Nat), i + d = l.length → (okL (prevL l i (-1)) (l.drop i) = okL (-1) l) → (0 < i → 0 ≤ prevL l i (-1)) →
   Ev (fun k => varint_PutList.l0 k l0 l (l.length : Int) (i : Int)) (putL l0 l) := by
 intro d
 induction d with
 | zero =>
  intro i hi he hp
  have hok : okL (-1) l = true := by rw [← he, List.drop_of_length_le (by omega)]; rfl
  have := plist_put l hw (by omega) l.length 0 (l0 ++ enc7 10 (l.length : Int)) (by omega) (by have := enc7_length 10 (l.length : Int); simp; omega) (by simp [prevL]) (by simpa [prevL] using hok)
  rw [putL, if_pos hok]
  refine Ev.step (f := fun k => varint_PutList.l1 k l (l0 ++ enc7 10 (l.length : Int)) 0 (l.length : Int) 0) (fun k => ?_) ?_
  ·rw [varint_PutList.l0, if_neg (show ¬ (i : Int) < (l.length : Int) by omega), Put_go l0 _ (by omega) (by omega), show max (l.length : Int) 0 = (l.length : Int) from by omega]
   rfl
  ·simpa [prevL] using this
 | succ d ih =>
  intro i hi he hp
  have hl : i < l.length := by omega
  have hx := hw l[i] (List.getElem_mem _)
  rw [drop_cons l i hl] at he
  by_cases hneg : l[i] < 0
  ·have hbad : okL (-1) l = false := by
    rw [← he]
    simp only [okL, Bool.and_eq_false_iff, decide_eq_false_iff_not]
    left
    by_cases hi0 : i = 0
    ·subst hi0; simp [prevL]; omega
    ·have := hp (by omega); omega
   refine Ev.step (f := fun _ => some (putL l0 l)) (fun k => ?_) (Ev.now _)
   rw [varint_PutList.l0, if_pos (show (i : Int) < (l.length : Int) by omega), if_pos (show (0 : Int) ≤ (i : Int) by omega), if_pos (show (i : Int) < (l.length : Int) by omega), rd_nat l i hl, if_pos hneg, putL, if_neg (by rw [hbad]; decide)]
  ·by_cases hi0 : i = 0
   ·subst hi0
    have hthis := ih 1 (by omega) (by
     rw [prevL_succ l 0 (-1) hl, ← he]
     simp [okL, prevL]; intro; omega) (fun _ => by rw [prevL_succ l 0 (-1) hl]; omega)
    refine Ev.step (fun k => ?_) hthis
    rw [varint_PutList.l0, if_pos (show ((0 : Nat) : Int) < (l.length : Int) by omega), if_pos (show (0 : Int) ≤ ((0 : Nat) : Int) by omega), if_pos (show ((0 : Nat) : Int) < (l.length : Int) by omega), rd_nat l 0 hl, if_neg hneg, if_neg (show ¬ ((0 : Nat) : Int) > 0 by omega), w64 (by omega) (by omega)]
    rfl
   ·have hpe : prevL l i (-1) = l[i - 1]'(by omega) := by
     have := prevL_succ l (i - 1) (-1) (by omega)
     rwa [show i - 1 + 1 = i from by omega] at this
    have e1 : wrap64 ((i : Int) - 1) = ((i - 1 : Nat) : Int) := by rw [w64 (by omega) (by omega)]; omega
    by_cases hge : l[i - 1]'(by omega) ≥ l[i]
    ·have hbad : okL (-1) l = false := by
      rw [← he]
      simp only [okL, Bool.and_eq_false_iff, decide_eq_false_iff_not]
      left; rw [hpe]; omega
     refine Ev.step (f := fun _ => some (putL l0 l)) (fun k => ?_) (Ev.now _)
     rw [varint_PutList.l0, if_pos (show (i : Int) < (l.length : Int) by omega), if_pos (show (0 : Int) ≤ (i : Int) by omega), if_pos (show (i : Int) < (l.length : Int) by omega), rd_nat l i hl, if_neg hneg, if_pos (show (i : Int) > 0 by omega), e1, if_pos (show (0 : Int) ≤ ((i - 1 : Nat) : Int) by omega), if_pos (show ((i - 1 : Nat) : Int) < (l.length : Int) by omega), rd_nat l (i - 1) (by omega), if_pos hge, putL, if_neg (by rw [hbad]; decide)]
    ·have hthis := ih (i + 1) (by omega) (by
      rw [prevL_succ l i (-1) hl, ← he]
      simp [okL, hpe]; intro; omega) (fun _ => by rw [prevL_succ l i (-1) hl]; omega)
     refine Ev.step (fun k => ?_) hthis
     rw [varint_PutList.l0, if_pos (show (i : Int) < (l.length : Int) by omega), if_pos (show (0 : Int) ≤ (i : Int) by omega), if_pos (show (i : Int) < (l.length : Int) by omega), rd_nat l i hl, if_neg hneg, if_pos (show (i : Int) > 0 by omega), e1, if_pos (show (0 : Int) ≤ ((i - 1 : Nat) : Int) by omega), if_pos (show ((i - 1 : Nat) : Int) < (l.length : Int) by omega), rd_nat l (i - 1) (by omega), if_neg hge, w64 (by omega) (by omega)]
     rfl
theorem PutList_go (l0 l : List Int) (h0 : l0.length + 10 * l.length + 40 < 140737488355328) (hw : ∀ x ∈ l, -9223372036854775808 ≤ x ∧ x ≤ 9223372036854775807) :
  Ev (fun k => varint_PutList.f k l0 l) (putL l0 l) := by
 refine Ev.congr (fun k => by rw [varint_PutList.f]) ?_
 exact plist_check l0 l h0 hw (by omega) l.length 0 (by omega) (by simp [prevL]) (by omega)
theorem rplist_put (l : List Int) (hw : ∀ x ∈ l, -9223372036854775808 ≤ x ∧ x ≤ 9223372036854775807) (hlen : l.length ≤ 140737488355328) :
  ∀ d (i : Nat) (acc : List Int), i + d = l.length → acc.length + 10 * d + 40 < 140737488355328 → 0 ≤ prevL l i 0 → okL (prevL l i (-1)) (l.drop i) = true →
   Ev (fun k => r03_PutList.l1 k l acc (i : Int)) (acc ++ encL (prevL l i 0) (l.drop i), 0) := by
 intro d
 induction d with
 | zero =>
  intro i acc hi ha hp hok
  refine Ev.step (f := fun _ => some (acc ++ encL (prevL l i 0) (l.drop i), 0)) (fun k => ?_) (Ev.now _)
  rw [r03_PutList.l1, if_neg (show ¬ (i : Int) < (l.length : Int) by omega), List.drop_of_length_le (by omega)]
  simp [encL]
 | succ d ih =>
  intro i acc hi ha hp hok
  have hl : i < l.length := by omega
  have hx := hw l[i] (List.getElem_mem _)
  rw [drop_cons l i hl] at hok ⊢
  simp only [okL, Bool.and_eq_true, decide_eq_true_eq] at hok
  have hge : prevL l i 0 ≤ l[i] := by
   unfold prevL at hp hok ⊢
   split
   ·rename_i h0; rw [if_pos h0] at hok; omega
   ·rename_i h0; rw [if_neg h0] at hok; omega
  have h0' : 0 ≤ l[i] := by omega
  have hps := prevL_succ l i 0 hl
  have hen := enc7_length 10 (l[i] - prevL l i 0)
  have := ih (i + 1) (acc ++ enc7 10 (l[i] - prevL l i 0)) (by omega) (by simp; omega) (by rw [hps]; exact h0') (by rw [prevL_succ l i (-1) hl]; exact hok.2)
  rw [hps] at this
  simp only [encL]
  rw [← List.append_assoc]
  have hP := rPut_go acc (l[i] - prevL l i 0) (by omega) (by omega)
  rw [show max (l[i] - prevL l i 0) 0 = l[i] - prevL l i 0 from by omega] at hP
  have hnext : wrap64 ((i : Int) + 1) = ((i + 1 : Nat) : Int) := by rw [w64 (by omega) (by omega)]; rfl
  by_cases hi0 : i = 0
  ·subst hi0
   refine Ev.step (f := fun k => (r03_Put.f k acc (l[0] - prevL l 0 0)).bind fun t => r03_PutList.l1 k l t ((0 + 1 : Nat) : Int)) (fun k => ?_) (Ev.bind hP this)
   rw [r03_PutList.l1, if_pos (show ((0 : Nat) : Int) < (l.length : Int) by omega), if_pos (show ((0 : Nat) : Int) = 0 from rfl), if_pos (show (0 : Int) ≤ ((0 : Nat) : Int) by omega), rd_nat l 0 hl, hnext]
   simp [prevL]
  ·have hpe : prevL l i 0 = l[i - 1]'(by omega) := by
    have := prevL_succ l (i - 1) 0 (by omega)
    rwa [show i - 1 + 1 = i from by omega] at this
   have e1 : wrap64 ((i : Int) - 1) = ((i - 1 : Nat) : Int) := by rw [w64 (by omega) (by omega)]; omega
   refine Ev.step (f := fun k => (r03_Put.f k acc (l[i] - prevL l i 0)).bind fun t => r03_PutList.l1 k l t ((i + 1 : Nat) : Int)) (fun k => ?_) (Ev.bind hP this)
   rw [r03_PutList.l1, if_pos (show (i : Int) < (l.length : Int) by omega), if_neg (show ¬ (i : Int) = 0 by omega), if_pos (show (0 : Int) ≤ (i : Int) by omega), e1, if_pos (show (0 : Int) ≤ ((i - 1 : Nat) : Int) by omega), if_pos (show ((i - 1 : Nat) : Int) < (l.length : Int) by omega), rd_nat l i hl, rd_nat l (i - 1) (by omega), hnext, ← hpe, w64 (by omega) (by omega)]
theorem rplist_check (l0 l : List Int) (h0 : l0.length + 10 * l.length + 60 < 140737488355328) (hw : ∀ x ∈ l, -9223372036854775808 ≤ x ∧ x ≤ 9223372036854775807) :
  ∀ d (i : Nat), i + d = l.length → (okL (prevL l i (-1)) (l.drop i) = okL (-1) l) → (0 < i → 0 ≤ prevL l i (-1)) →
   Ev (fun k => r03_PutList.l0 k l0 l (i : Int)) (putL l0 l) := by
 intro d
 induction d with
 | zero =>
  intro i hi he hp
  have hok : okL (-1) l = true := by rw [← he, List.drop_of_length_le (by omega)]; rfl
  have := rplist_put l hw (by omega) l.length 0 (l0 ++ enc7 10 (l.length : Int)) (by omega) (by have := enc7_length 10 (l.length : Int); simp; omega) (by simp [prevL]) (by simpa [prevL] using hok)
  rw [putL, if_pos hok]
  have hP := rPut_go l0 (l.length : Int) (by omega) (by omega)
  rw [show max (l.length : Int) 0 = (l.length : Int) from by omega] at hP
  refine Ev.step (f := fun k => (r03_Put.f k l0 (l.length : Int)).bind fun t => r03_PutList.l1 k l t 0) (fun k => ?_) (Ev.bind hP ?_)
  ·rw [r03_PutList.l0, if_neg (show ¬ (i : Int) < (l.length : Int) by omega)]
  ·simpa [prevL] using this
 | succ d ih =>
  intro i hi he hp
  have hl : i < l.length := by omega
  have hx := hw l[i] (List.getElem_mem _)
  rw [drop_cons l i hl] at he
  by_cases hneg : l[i] < 0
  ·have hbad : okL (-1) l = false := by
    rw [← he]
    simp only [okL, Bool.and_eq_false_iff, decide_eq_false_iff_not]
    left
    by_cases hi0 : i = 0
    ·subst hi0; simp [prevL]; omega
    ·have := hp (by omega); omega
   refine Ev.step (f := fun _ => some (putL l0 l)) (fun k => ?_) (Ev.now _)
   rw [r03_PutList.l0, if_pos (show (i : Int) < (l.length : Int) by omega), if_pos (show (0 : Int) ≤ (i : Int) by omega), rd_nat l i hl, if_pos hneg, putL, if_neg (by rw [hbad]; decide)]
  ·by_cases hi0 : i = 0
   ·subst hi0
    have hthis := ih 1 (by omega) (by
     rw [prevL_succ l 0 (-1) hl, ← he]
     simp [okL, prevL]; intro; omega) (fun _ => by rw [prevL_succ l 0 (-1) hl]; omega)
    refine Ev.step (fun k => ?_) hthis
    rw [r03_PutList.l0, if_pos (show ((0 : Nat) : Int) < (l.length : Int) by omega), if_pos (show (0 : Int) ≤ ((0 : Nat) : Int) by omega), rd_nat l 0 hl, if_neg hneg, if_neg (show ¬ ((0 : Nat) : Int) > 0 by omega), w64 (by omega) (by omega)]
    rfl
   ·have hpe : prevL l i (-1) = l[i - 1]'(by omega) := by
     have := prevL_succ l (i - 1) (-1) (by omega)
     rwa [show i - 1 + 1 = i from by omega] at this
    have e1 : wrap64 ((i : Int) - 1) = ((i - 1 : Nat) : Int) := by rw [w64 (by omega) (by omega)]; omega
    by_cases hge : l[i] ≤ l[i - 1]'(by omega)
    ·have hbad : okL (-1) l = false := by
      rw [← he]
      simp only [okL, Bool.and_eq_false_iff, decide_eq_false_iff_not]
      left; rw [hpe]; omega
     refine Ev.step (f := fun _ => some (putL l0 l)) (fun k => ?_) (Ev.now _)
     rw [r03_PutList.l0, if_pos (show (i : Int) < (l.length : Int) by omega), if_pos (show (0 : Int) ≤ (i : Int) by omega), rd_nat l i hl, if_neg hneg, if_pos (show (i : Int) > 0 by omega), e1, if_pos (show (0 : Int) ≤ ((i - 1 : Nat) : Int) by omega), if_pos (show ((i - 1 : Nat) : Int) < (l.length : Int) by omega), rd_nat l (i - 1) (by omega), if_pos hge, putL, if_neg (by rw [hbad]; decide)]
    ·have hthis := ih (i + 1) (by omega) (by
      rw [prevL_succ l i (-1) hl, ← he]
      simp [okL, hpe]; intro; omega) (fun _ => by rw [prevL_succ l i (-1) hl]; omega)
     refine Ev.step (fun k => ?_) hthis
     rw [r03_PutList.l0, if_pos (show (i : Int) < (l.length : Int) by omega), if_pos (show (0 : Int) ≤ (i : Int) by omega), rd_nat l i hl, if_neg hneg, if_pos (show (i : Int) > 0 by omega), e1, if_pos (show (0 : Int) ≤ ((i - 1 : Nat) : Int) by omega), if_pos (show ((i - 1 : Nat) : Int) < (l.length : Int) by omega), rd_nat l (i - 1) (by omega), if_neg hge, w64 (by omega) (by omega)]
     rfl
theorem rPutList_go (l0 l : List Int) (h0 : l0.length + 10 * l.length + 60 < 140737488355328) (hw : ∀ x ∈ l, -9223372036854775808 ≤ x ∧ x ≤ 9223372036854775807) :
  Ev (fun k => r03_PutList.f k l0 l) (putL l0 l) := by
 refine Ev.congr (fun k => by rw [r03_PutList.f]) ?_
 exact rplist_check l0 l h0 hw l.length 0 (by omega) (by simp [prevL]) (by omega)

abbrev SE1 := S30
abbrev D7 := Int × Int × Int × List Int × List Int × List ByteArray × Int
def big : Int := 9223372036854775807
def numO (b : List Int) (a : Int) : Option (Int × Int) := if (get7 b a).2.2 = 0 then some ((get7 b a).1, (get7 b a).2.1) else none
def lstO (b : List Int) (a : Int) : Option (List Int × Int) := if (getL b a big).2.2 = 0 then some ((getL b a big).1, (getL b a big).2.1) else none
def strsO (b : List Int) : Nat → Int → Int → List ByteArray → Option (List ByteArray × Int)
 | 0, _, _, _ => none
 | m + 1, n, a, acc => if 0 < n then (if (getS b a big).2.2 = 0 then strsO b m (n - 1) (getS b a big).2.1 (acc ++ [(getS b a big).1]) else none) else some (acc, a)
def decO (b : List Int) : Option SE1 :=
 (numO b 0).bind fun a1 => (numO b a1.2).bind fun a2 => (numO b a2.2).bind fun a3 => (lstO b a3.2).bind fun a4 => (lstO b a4.2).bind fun a5 => (numO b a5.2).bind fun a6 => (strsO b (b.length + 2) a6.1 a6.2 []).bind fun a7 =>
  if a7.2 = (b.length : Int) then some ⟨a1.1, a2.1, a3.1, a4.1, a5.1, a7.1⟩ else none
def badD : D7 := (0, 0, 0, [], [], [], 3)
def tupD (o : Option SE1) : D7 := match o with | some e => (e.f0, e.f1, e.f2, e.f3, e.f4, e.f5, 0) | none => badD
theorem dnum_is (b : List Int) (a : Int) (hb : b.length ≤ 140737488351232) (hu : ∀ x ∈ b, 0 ≤ x ∧ x < 256) :
  (∀ p, numO b a = some p → Ev (fun k => dnum k b a 0) (p.1, p.2, 0)) ∧ (numO b a = none → ∃ n f, f ≠ 0 ∧ Ev (fun k => dnum k b a 0) (n, a, f)) := by
 have h := Get_go b a hb hu
 unfold numO
 by_cases c : (get7 b a).2.2 = 0
 ·rw [if_pos c]
  refine ⟨fun p hp => ?_, fun e => absurd e (by simp)⟩
  obtain rfl := Option.some.inj hp
  exact Ev.ite_pos rfl (Ev.bind h (Ev.ite_pos c (Ev.now _)))
 ·rw [if_neg c]
  refine ⟨fun p hp => absurd hp (by simp), fun _ => ⟨_, _, c, Ev.ite_pos rfl (Ev.bind h (Ev.ite_neg c (Ev.now _)))⟩⟩
theorem dlist_is (b : List Int) (a : Int) (hb : b.length ≤ 17592186000000) (hu : ∀ x ∈ b, 0 ≤ x ∧ x < 256) :
  (∀ p, lstO b a = some p → Ev (fun k => dlist k b a 0) (p.1, p.2, 0)) ∧ (lstO b a = none → ∃ n f, f ≠ 0 ∧ Ev (fun k => dlist k b a 0) (n, a, f)) := by
 have h := GetList_go b a big hb hu
 unfold lstO
 by_cases c : (getL b a big).2.2 = 0
 ·rw [if_pos c]
  refine ⟨fun p hp => ?_, fun e => absurd e (by simp)⟩
  obtain rfl := Option.some.inj hp
  exact Ev.ite_pos rfl (Ev.bind h (Ev.ite_pos c (Ev.now _)))
 ·rw [if_neg c]
  refine ⟨fun p hp => absurd hp (by simp), fun _ => ⟨_, _, c, Ev.ite_pos rfl (Ev.bind h (Ev.ite_neg c (Ev.now _)))⟩⟩
theorem dnum_bad (k : Nat) (b : List Int) (a f : Int) (hf : f ≠ 0) : dnum k b a f = some (0, a, f) := if_neg hf
theorem dlist_bad (k : Nat) (b : List Int) (a f : Int) (hf : f ≠ 0) : dlist k b a f = some ([], a, f) := if_neg hf
theorem dstrs_bad (k : Nat) (b : List Int) (j : Nat) (i n a f : Int) (on : List ByteArray) (hf : f ≠ 0) : dstrs k b (j + 1) i n a f on = some (on, a, f) := by
 rw [dstrs]
 split <;> first | rfl | rw [if_neg hf]
theorem get7_next {b : List Int} {a : Int} (h : (get7 b a).2.2 = 0) : 0 ≤ (get7 b a).1 ∧ (get7 b a).1 ≤ 4611686018427387904 ∧ a < (get7 b a).2.1 ∧ (get7 b a).2.1 ≤ (b.length : Int) := by
 obtain ⟨h0, h1, p, hp, h9, e, hpos, v0, v1, hle⟩ := get7_ok h
 rw [e]
 dsimp only
 omega
theorem Ev.bind_all {α β : Type} {o : Nat → Option α} {a : α} {f : Nat → α → Option β} {r : β} (h : ∀ k, o k = some a) (e : Ev (fun k => f k a) r) : Ev (fun k => (o k).bind (f k)) r := by
 refine Ev.congr (fun k => ?_) e
 rw [h k]; rfl
theorem getS_next {b : List Int} {a : Int} (h : (getS b a big).2.2 = 0) (ha : 0 ≤ a) : a < (getS b a big).2.1 ∧ (getS b a big).2.1 ≤ (b.length : Int) := by
 unfold getS at h ⊢
 dsimp only at h ⊢
 by_cases c : (get7 b a).2.2 = 0
 ·rw [if_pos c] at h ⊢
  have h3 := get7_next c
  by_cases c2 : (get7 b a).1 > big
  ·rw [if_pos c2] at h
   exact absurd h (by decide)
  ·rw [if_neg c2] at h ⊢
   by_cases c4 : (b.length : Int) - (get7 b a).2.1 < (get7 b a).1
   ·rw [if_pos c4] at h
    exact absurd h (by decide)
   ·rw [if_neg c4] at h ⊢
    dsimp only
    omega
 ·rw [if_neg c] at h
  exact absurd h c
theorem dstrs_is (b : List Int) (hb : b.length ≤ 8796093022000) (hu : ∀ x ∈ b, 0 ≤ x ∧ x < 256) (n : Int) (hn : n ≤ 4611686018427387904) :
  ∀ (m : Nat) (i a : Int) (on : List ByteArray), 0 ≤ a → a ≤ (b.length : Int) → (b.length : Int) < a + m → 0 ≤ i → i ≤ a → (on.length : Int) ≤ a →
  ∃ r : List ByteArray × Int × Int, (∃ K, ∀ k j, K ≤ k → K ≤ j → dstrs k b j i n a 0 on = some r) ∧ (∀ p, strsO b m (n - i) a on = some p → r = (p.1, p.2, 0)) ∧ (strsO b m (n - i) a on = none → r.2.2 ≠ 0) := by
 intro m
 induction m with
 | zero => intro i a on h0 h1 h2; omega
 | succ m ih =>
  intro i a on h0 h1 h2 hi hia hon
  obtain ⟨K1, hK1⟩ := GetString_go b a big (by omega) hu
  rw [strsO]
  by_cases c : i < n
  ·rw [if_pos (show 0 < n - i by omega)]
   by_cases c2 : (getS b a big).2.2 = 0
   ·rw [if_pos c2]
    have hx := getS_next c2 h0
    obtain ⟨r, ⟨K, hK⟩, h3, h4⟩ := ih (i + 1) (getS b a big).2.1 (on ++ [(getS b a big).1]) (by omega) (by omega) (by omega) (by omega) (by omega) (by rw [List.length_append, List.length_singleton]; omega)
    rw [show n - (i + 1) = n - i - 1 by omega] at h3 h4
    refine ⟨r, ⟨max K K1 + 1, fun k j hk hj => ?_⟩, h3, h4⟩
    obtain ⟨j, rfl⟩ : ∃ j', j = j' + 1 := ⟨j - 1, by omega⟩
    rw [dstrs, if_pos c, if_pos rfl, if_pos (by omega), show varint_GetString.f k b a 9223372036854775807 = some (getS b a big) from hK1 k (by omega), Option.bind_some, if_pos c2, w64 (x := i + 1) (by omega) (by omega)]
    exact hK k j (by omega) (by omega)
   ·rw [if_neg c2]
    refine ⟨(on ++ [(getS b a big).1], a, (getS b a big).2.2), ⟨K1 + 2, fun k j hk hj => ?_⟩, fun p hp => absurd hp (by simp), fun _ => c2⟩
    obtain ⟨j, rfl⟩ : ∃ j', j = j' + 2 := ⟨j - 2, by omega⟩
    rw [dstrs, if_pos c, if_pos rfl, if_pos (by omega), show varint_GetString.f k b a 9223372036854775807 = some (getS b a big) from hK1 k (by omega), Option.bind_some, if_neg c2, dstrs_bad _ _ _ _ _ _ _ _ c2]
  ·rw [if_neg (show ¬ 0 < n - i by omega)]
   refine ⟨(on, a, 0), ⟨1, fun k j hk hj => ?_⟩, fun p hp => by obtain rfl := Option.some.inj hp; rfl, fun e => absurd e (by simp)⟩
   obtain ⟨j, rfl⟩ : ∃ j', j = j' + 1 := ⟨j - 1, by omega⟩
   rw [dstrs, if_neg c]
def lastD (b : List Int) (x1 x2 x3 : Int) (x4 x5 : List Int) (a7 : List ByteArray × Int × Int) : Option D7 :=
 if a7.2.2 = 0 then (if a7.2.1 = (b.length : Int) then some (x1, x2, x3, x4, x5, a7.1, 0) else some (0, 0, 0, [], [], [], 3)) else some (0, 0, 0, [], [], [], 3)
theorem bad6 (b : List Int) (x1 x2 x3 : Int) (x4 x5 : List Int) (n a f : Int) (hf : f ≠ 0) : Ev (fun k => (dstrs k b k 0 n a f []).bind (lastD b x1 x2 x3 x4 x5)) badD := by
 refine ⟨1, fun k hk => ?_⟩
 obtain ⟨k, rfl⟩ : ∃ j, k = j + 1 := ⟨k - 1, by omega⟩
 show (dstrs (k + 1) b (k + 1) 0 n a f []).bind (lastD b x1 x2 x3 x4 x5) = some badD
 rw [dstrs_bad _ _ _ _ _ _ _ _ hf, Option.bind_some, lastD, if_neg hf]
 rfl
theorem bad5 (b : List Int) (x1 x2 x3 : Int) (x4 x5 : List Int) (a f : Int) (hf : f ≠ 0) : Ev (fun k => (dnum k b a f).bind fun a6 => (dstrs k b k 0 a6.1 a6.2.1 a6.2.2 []).bind (lastD b x1 x2 x3 x4 x5)) badD :=
 Ev.bind_all (fun k => dnum_bad k b a f hf) (bad6 b x1 x2 x3 x4 x5 0 a f hf)
theorem bad4 (b : List Int) (x1 x2 x3 : Int) (x4 : List Int) (a f : Int) (hf : f ≠ 0) : Ev (fun k => (dlist k b a f).bind fun a5 => (dnum k b a5.2.1 a5.2.2).bind fun a6 => (dstrs k b k 0 a6.1 a6.2.1 a6.2.2 []).bind (lastD b x1 x2 x3 x4 a5.1)) badD :=
 Ev.bind_all (fun k => dlist_bad k b a f hf) (bad5 b x1 x2 x3 x4 [] a f hf)
theorem bad3 (b : List Int) (x1 x2 x3 : Int) (a f : Int) (hf : f ≠ 0) : Ev (fun k => (dlist k b a f).bind fun a4 => (dlist k b a4.2.1 a4.2.2).bind fun a5 => (dnum k b a5.2.1 a5.2.2).bind fun a6 => (dstrs k b k 0 a6.1 a6.2.1 a6.2.2 []).bind (lastD b x1 x2 x3 a4.1 a5.1)) badD :=
 Ev.bind_all (fun k => dlist_bad k b a f hf) (bad4 b x1 x2 x3 [] a f hf)
theorem bad2 (b : List Int) (x1 x2 : Int) (a f : Int) (hf : f ≠ 0) : Ev (fun k => (dnum k b a f).bind fun a3 => (dlist k b a3.2.1 a3.2.2).bind fun a4 => (dlist k b a4.2.1 a4.2.2).bind fun a5 => (dnum k b a5.2.1 a5.2.2).bind fun a6 => (dstrs k b k 0 a6.1 a6.2.1 a6.2.2 []).bind (lastD b x1 x2 a3.1 a4.1 a5.1)) badD :=
 Ev.bind_all (fun k => dnum_bad k b a f hf) (bad3 b x1 x2 0 a f hf)
theorem bad1 (b : List Int) (x1 : Int) (a f : Int) (hf : f ≠ 0) : Ev (fun k => (dnum k b a f).bind fun a2 => (dnum k b a2.2.1 a2.2.2).bind fun a3 => (dlist k b a3.2.1 a3.2.2).bind fun a4 => (dlist k b a4.2.1 a4.2.2).bind fun a5 => (dnum k b a5.2.1 a5.2.2).bind fun a6 => (dstrs k b k 0 a6.1 a6.2.1 a6.2.2 []).bind (lastD b x1 a2.1 a3.1 a4.1 a5.1)) badD :=
 Ev.bind_all (fun k => dnum_bad k b a f hf) (bad2 b x1 0 a f hf)
theorem numO_next {b : List Int} {a : Int} {p : Int × Int} (h : numO b a = some p) (ha : 0 ≤ a) : 0 ≤ p.1 ∧ p.1 ≤ 4611686018427387904 ∧ a < p.2 ∧ p.2 ≤ (b.length : Int) := by
 unfold numO at h
 by_cases c : (get7 b a).2.2 = 0
 ·rw [if_pos c] at h
  obtain rfl := Option.some.inj h
  have := get7_next c
  dsimp only
  omega
 ·rw [if_neg c] at h
  exact absurd h (by simp)
theorem getLs_next (b : List Int) : ∀ (r : Nat) (more : Bool) (last a : Int) (acc : List Int), 0 ≤ a → a ≤ (b.length : Int) → (getLs b r more last a acc).2.2 = 0 → a ≤ (getLs b r more last a acc).2.1 ∧ (getLs b r more last a acc).2.1 ≤ (b.length : Int) ∧ (r : Int) ≤ (getLs b r more last a acc).2.1 - a
 | 0, _, _, a, acc, h0, h1, _ => by rw [getLs]; exact ⟨Int.le_refl _, h1, by simp⟩
 | r + 1, more, last, a, acc, h0, h1, h => by
  rw [getLs] at h ⊢
  by_cases c : (get7 b a).2.2 = 0
  ·rw [if_pos c] at h ⊢
   have hg := get7_next c
   by_cases c1 : more = true ∧ (get7 b a).1 = 0
   ·rw [if_pos c1] at h
    exact absurd h (by simp)
   rw [if_neg c1] at h ⊢
   by_cases c2 : (get7 b a).1 > 4611686018427387904 - last
   ·rw [if_pos c2] at h
    exact absurd h (by simp)
   rw [if_neg c2] at h ⊢
   have := getLs_next b r true _ _ _ (by omega) (by omega) h
   omega
  ·rw [if_neg c] at h
   exact absurd h c
theorem getL_next {b : List Int} {a m : Int} (h : (getL b a m).2.2 = 0) (ha : 0 ≤ a) : a < (getL b a m).2.1 ∧ (getL b a m).2.1 ≤ (b.length : Int) ∧ (get7 b a).2.2 = 0 ∧ (get7 b a).1 ≤ m ∧ (get7 b a).1 ≤ (b.length : Int) := by
 unfold getL at h ⊢
 by_cases c : (get7 b a).2.2 = 0
 ·rw [if_pos c] at h ⊢
  have hg := get7_next c
  by_cases c2 : (get7 b a).1 > m
  ·rw [if_pos c2] at h
   exact absurd h (by simp)
  ·rw [if_neg c2] at h ⊢
   have := getLs_next b _ _ _ _ _ (by omega) (by omega) h
   exact ⟨by omega, by omega, c, by omega, by omega⟩
 ·rw [if_neg c] at h
  exact absurd h c
theorem lstO_next {b : List Int} {a : Int} {p : List Int × Int} (h : lstO b a = some p) (ha : 0 ≤ a) : a < p.2 ∧ p.2 ≤ (b.length : Int) := by
 unfold lstO at h
 by_cases c : (getL b a big).2.2 = 0
 ·rw [if_pos c] at h
  obtain rfl := Option.some.inj h
  have := getL_next c ha
  exact ⟨this.1, this.2.1⟩
 ·rw [if_neg c] at h
  exact absurd h (by simp)
theorem Decode_is (b : List Int) (hb : b.length ≤ 8796093022000) (hu : ∀ x ∈ b, 0 ≤ x ∧ x < 256) : Ev (fun k => manifest_Decode.f k b) (tupD (decO b)) := by
 have B1 : b.length ≤ 140737488351232 := by omega
 have B2 : b.length ≤ 17592186000000 := by omega
 refine Ev.congr (f := fun k => (dnum k b 0 0).bind fun a1 => (dnum k b a1.2.1 a1.2.2).bind fun a2 => (dnum k b a2.2.1 a2.2.2).bind fun a3 => (dlist k b a3.2.1 a3.2.2).bind fun a4 => (dlist k b a4.2.1 a4.2.2).bind fun a5 => (dnum k b a5.2.1 a5.2.2).bind fun a6 => (dstrs k b k 0 a6.1 a6.2.1 a6.2.2 []).bind (lastD b a1.1 a2.1 a3.1 a4.1 a5.1)) (fun k => rfl) ?_
 unfold decO
 cases h1 : numO b 0 with
 | none =>
  obtain ⟨n, f, hf, h⟩ := (dnum_is b 0 B1 hu).2 h1
  exact Ev.bind h (bad1 b n 0 f hf)
 | some p1 =>
 have q1 := numO_next h1 (by omega)
 refine Ev.bind ((dnum_is b 0 B1 hu).1 p1 h1) ?_
 rw [Option.bind_some]
 cases h2 : numO b p1.2 with
 | none =>
  obtain ⟨n, f, hf, h⟩ := (dnum_is b p1.2 B1 hu).2 h2
  exact Ev.bind h (bad2 b p1.1 n _ f hf)
 | some p2 =>
 have q2 := numO_next h2 (by omega)
 refine Ev.bind ((dnum_is b p1.2 B1 hu).1 p2 h2) ?_
 rw [Option.bind_some]
 cases h3 : numO b p2.2 with
 | none =>
  obtain ⟨n, f, hf, h⟩ := (dnum_is b p2.2 B1 hu).2 h3
  exact Ev.bind h (bad3 b p1.1 p2.1 n _ f hf)
 | some p3 =>
 have q3 := numO_next h3 (by omega)
 refine Ev.bind ((dnum_is b p2.2 B1 hu).1 p3 h3) ?_
 rw [Option.bind_some]
 cases h4 : lstO b p3.2 with
 | none =>
  obtain ⟨n, f, hf, h⟩ := (dlist_is b p3.2 B2 hu).2 h4
  exact Ev.bind h (bad4 b p1.1 p2.1 p3.1 n _ f hf)
 | some p4 =>
 have q4 := lstO_next h4 (by omega)
 refine Ev.bind ((dlist_is b p3.2 B2 hu).1 p4 h4) ?_
 rw [Option.bind_some]
 cases h5 : lstO b p4.2 with
 | none =>
  obtain ⟨n, f, hf, h⟩ := (dlist_is b p4.2 B2 hu).2 h5
  exact Ev.bind h (bad5 b p1.1 p2.1 p3.1 p4.1 n _ f hf)
 | some p5 =>
 have q5 := lstO_next h5 (by omega)
 refine Ev.bind ((dlist_is b p4.2 B2 hu).1 p5 h5) ?_
 rw [Option.bind_some]
 cases h6 : numO b p5.2 with
 | none =>
  obtain ⟨n, f, hf, h⟩ := (dnum_is b p5.2 B1 hu).2 h6
  exact Ev.bind h (bad6 b p1.1 p2.1 p3.1 p4.1 p5.1 n _ f hf)
 | some p6 =>
 have q6 := numO_next h6 (by omega)
 refine Ev.bind ((dnum_is b p5.2 B1 hu).1 p6 h6) ?_
 rw [Option.bind_some]
 obtain ⟨r, ⟨K, hK⟩, r1, r2⟩ := dstrs_is b hb hu p6.1 q6.2.1 (b.length + 2) 0 p6.2 [] (by omega) (by omega) (by omega) (by omega) (by omega) (by simp; omega)
 rw [Int.sub_zero] at r1 r2
 refine ⟨K, fun k hk => ?_⟩
 show (dstrs k b k 0 p6.1 p6.2 0 []).bind (lastD b p1.1 p2.1 p3.1 p4.1 p5.1) = _
 rw [hK k k hk hk, Option.bind_some, lastD]
 cases h7 : strsO b (b.length + 2) p6.1 p6.2 [] with
 | none =>
  rw [if_neg (r2 h7)]
  rfl
 | some p7 =>
  obtain rfl := r1 p7 h7
  rw [if_pos rfl, Option.bind_some]
  by_cases c : p7.2 = (b.length : Int)
  ·rw [if_pos c, if_pos c]; rfl
  ·rw [if_neg c, if_neg c]; rfl

def putN (n : Int) : List Int := enc7 10 (max n 0)
def lstB (l : List Int) : List Int := if okL (-1) l = true then enc7 10 (l.length : Int) ++ encL 0 l else enc7 10 0
def strB (s : ByteArray) : List Int := enc7 10 (s.size : Int) ++ bytesOf s
def strsB (l : List ByteArray) : List Int := (l.map strB).flatten
def encM (e : SE1) : List Int := putN e.f0 ++ putN e.f1 ++ putN e.f2 ++ lstB e.f3 ++ lstB e.f4 ++ putN (e.f5.length : Int) ++ strsB e.f5
theorem putN_len (n : Int) : (putN n).length ≤ 10 := enc7_length 10 _
theorem lstB_len (l : List Int) : (lstB l).length ≤ 10 * l.length + 10 := by
 unfold lstB
 split
 ·rw [List.length_append]
  have := enc7_length 10 (l.length : Int)
  have := encL_length l 0
  omega
 ·have := enc7_length 10 0
  omega
theorem list_is (acc l : List Int) (h : acc.length + 10 * l.length + 40 < 140737488355328) (hw : ∀ x ∈ l, -9223372036854775808 ≤ x ∧ x ≤ 9223372036854775807) : Ev (fun k => manifest_list.f k acc l) (acc ++ lstB l) := by
 refine Ev.congr (fun k => by rw [manifest_list.f]) (Ev.bind (PutList_go acc l h hw) ?_)
 unfold putL lstB
 by_cases c : okL (-1) l = true
 ·rw [if_pos c, if_pos c, List.append_assoc]
  exact Ev.ite_pos rfl (Ev.now _)
 ·rw [if_neg c, if_neg c]
  exact Ev.ite_neg (by decide) (Ev.bind_eq (Put_go acc 0 (by omega) (by decide)) (Ev.now _))
theorem bytesOf_len (s : ByteArray) : (bytesOf s).length = s.size := bytesOf_length s
theorem strsB_take (l : List ByteArray) (i : Nat) (h : i < l.length) : strsB (l.take (i + 1)) = strsB (l.take i) ++ strB l[i] := by
 rw [strsB, strsB, ← take_snoc l i h, List.map_append, List.flatten_append]
 simp
theorem strsB_mono (l : List ByteArray) (i : Nat) : (strsB (l.take i)).length ≤ (strsB l).length := by
 have : strsB l = strsB (l.take i) ++ strsB (l.drop i) := by
  rw [strsB, strsB, strsB, ← List.flatten_append, ← List.map_append, List.take_append_drop]
 rw [this, List.length_append]
 omega
theorem encM_len (e : SE1) : (encM e).length ≤ 10 * e.f3.length + 10 * e.f4.length + 60 + (strsB e.f5).length := by
 have h0 := putN_len e.f0
 have h1 := putN_len e.f1
 have h2 := putN_len e.f2
 have h3 := lstB_len e.f3
 have h4 := lstB_len e.f4
 have h5 := putN_len (e.f5.length : Int)
 simp only [encM, List.length_append]
 omega
theorem strs_go (acc : List Int) (l : List ByteArray) (hl : l.length ≤ 9223372036854775000) (h : acc.length + (strsB l).length + 40 < 140737488355328) : Ev (fun k => manifest_Encode.l0 k acc l (l.length : Int) 0) (acc ++ strsB l) := by
 have key : ∀ d (i : Nat), i + d = l.length → Ev (fun k => manifest_Encode.l0 k (acc ++ strsB (l.take i)) l (l.length : Int) (i : Int)) (acc ++ strsB l) := by
  intro d
  induction d with
  | zero =>
   intro i hi
   rw [List.take_of_length_le (by omega)]
   refine Ev.step (f := fun _ => some (acc ++ strsB l)) (fun k => ?_) (Ev.now _)
   rw [manifest_Encode.l0, if_neg (by omega)]
  | succ d ih =>
   intro i hi
   have hlt : i < l.length := by omega
   have next := ih (i + 1) (by omega)
   have hm := strsB_mono l (i + 1)
   rw [strsB_take l i hlt, List.length_append] at hm
   have hb : (strB l[i]).length = (enc7 10 (l[i].size : Int)).length + l[i].size := by rw [strB, List.length_append, bytesOf_len]
   refine Ev.step (fun k => by rw [manifest_Encode.l0, if_pos (show (i : Int) < (l.length : Int) by omega), if_pos (show (0 : Int) ≤ (i : Int) by omega), if_pos (show (i : Int) < (l.length : Int) by omega), rdOf_nat _ l i hlt, w64 (x := (i : Int) + 1) (by omega) (by omega)]) ?_
   refine Ev.bind_eq (a := acc ++ strsB (l.take i) ++ strB l[i]) ?_ ?_
   ·have hx : max (l[i].size : Int) 0 = (l[i].size : Int) := by omega
    have he := enc7_length 10 (l[i].size : Int)
    rw [varint_PutString.f, Put_go _ _ (by rw [List.length_append]; omega) (by omega), Option.bind_some, hx, if_pos (by simp only [List.length_append]; omega), strB, List.append_assoc]
   ·rw [List.append_assoc, ← strsB_take l i hlt]
    exact next
 have := key l.length 0 (by omega)
 rw [List.take_zero, show strsB [] = [] from rfl, List.append_nil] at this
 exact this
def okE (e : SE1) : Prop := (∀ x ∈ e.f3, -9223372036854775808 ≤ x ∧ x ≤ 9223372036854775807) ∧ (∀ x ∈ e.f4, -9223372036854775808 ≤ x ∧ x ≤ 9223372036854775807) ∧ e.f0 ≤ 9223372036854775807 ∧ e.f1 ≤ 9223372036854775807 ∧ e.f2 ≤ 9223372036854775807 ∧ e.f5.length ≤ 9223372036854775000 ∧ 10 * e.f3.length + 10 * e.f4.length + (strsB e.f5).length + 200 < 140737488350000
theorem Encode_is (e : SE1) (h : okE e) : Ev (fun k => manifest_Encode.f k e.f0 e.f1 e.f2 e.f3 e.f4 e.f5) (encM e) := by
 obtain ⟨w3, w4, b0, b1, b2, h5, hs⟩ := h
 have h0 := putN_len e.f0
 have h1 := putN_len e.f1
 have h2 := putN_len e.f2
 have h3 := lstB_len e.f3
 have h4 := lstB_len e.f4
 have h6 := putN_len (e.f5.length : Int)
 refine Ev.congr (fun k => by rw [manifest_Encode.f]) (Ev.bind_eq (Put_go [] e.f0 (by simp) b0) ?_)
 refine Ev.bind_eq (Put_go ([] ++ putN e.f0) e.f1 (by simp only [List.nil_append]; omega) b1) ?_
 refine Ev.bind_eq (Put_go ([] ++ putN e.f0 ++ putN e.f1) e.f2 (by simp only [List.nil_append, List.length_append]; omega) b2) ?_
 refine Ev.bind (list_is ([] ++ putN e.f0 ++ putN e.f1 ++ putN e.f2) e.f3 (by simp only [List.nil_append, List.length_append]; omega) w3) ?_
 refine Ev.bind (list_is ([] ++ putN e.f0 ++ putN e.f1 ++ putN e.f2 ++ lstB e.f3) e.f4 (by simp only [List.nil_append, List.length_append]; omega) w4) ?_
 refine Ev.bind_eq (Put_go ([] ++ putN e.f0 ++ putN e.f1 ++ putN e.f2 ++ lstB e.f3 ++ lstB e.f4) (e.f5.length : Int) (by simp only [List.nil_append, List.length_append]; omega) (by omega)) ?_
 exact strs_go (putN e.f0 ++ putN e.f1 ++ putN e.f2 ++ lstB e.f3 ++ lstB e.f4 ++ putN (e.f5.length : Int)) e.f5 h5 (by simp only [List.length_append]; omega)
theorem encL_bytes (l : List Int) : ∀ lo, okL lo l = true → -1 ≤ lo → (∀ x ∈ l, x ≤ 9223372036854775807) → ∀ last, 0 ≤ last → last ≤ lo + 1 → ∀ c ∈ encL last l, 0 ≤ c ∧ c < 256 := by
 induction l with
 | nil => intro lo _ _ _ last _ _ c hc; simp [encL] at hc
 | cons x l ih =>
  intro lo h hlo hm last h0 h1 c hc
  rw [okL, Bool.and_eq_true, decide_eq_true_iff] at h
  have hx := hm x List.mem_cons_self
  rw [encL, List.mem_append] at hc
  rcases hc with hc | hc
  ·exact enc7_range 10 _ (by omega) (by omega) c hc
  ·exact ih x h.2 (by omega) (fun y hy => hm y (List.mem_cons_of_mem _ hy)) x (by omega) (by omega) c hc
theorem putN_bytes (n : Int) (h : n ≤ 9223372036854775807) : ∀ c ∈ putN n, 0 ≤ c ∧ c < 256 := enc7_range 10 _ (by omega) (by omega)
theorem lstB_bytes (l : List Int) (hl : l.length ≤ 9223372036854775807) (h : ∀ x ∈ l, -9223372036854775808 ≤ x ∧ x ≤ 9223372036854775807) : ∀ c ∈ lstB l, 0 ≤ c ∧ c < 256 := by
 unfold lstB
 by_cases c : okL (-1) l = true
 ·rw [if_pos c]
  intro b hb
  rcases List.mem_append.1 hb with hb | hb
  ·exact enc7_range 10 _ (by omega) (by omega) b hb
  ·exact encL_bytes l (-1) c (by omega) (fun x hx => (h x hx).2) 0 (by omega) (by omega) b hb
 ·rw [if_neg c]
  exact enc7_range 10 _ (by omega) (by omega)
theorem bytesOf_bytes (s : ByteArray) : ∀ c ∈ bytesOf s, 0 ≤ c ∧ c < 256 := by
 intro c hc
 obtain ⟨b, _, rfl⟩ := List.mem_map.1 hc
 have := b.toNat_lt
 omega
theorem strsB_bytes (l : List ByteArray) (h : (strsB l).length < 140737488355328) : ∀ c ∈ strsB l, 0 ≤ c ∧ c < 256 := by
 intro c hc
 obtain ⟨b, hb, hc⟩ := List.mem_flatten.1 hc
 obtain ⟨s, hs, rfl⟩ := List.mem_map.1 hb
 have hsz : s.size ≤ (strsB l).length := by
  have : ∀ l : List ByteArray, s ∈ l → s.size ≤ (strsB l).length := by
   intro l
   induction l with
   | nil => intro h; exact absurd h (by simp)
   | cons x l ih =>
    intro h
    have e1 : strsB (x :: l) = strB x ++ strsB l := by simp [strsB]
    rw [e1, List.length_append, strB, List.length_append, bytesOf_len]
    rcases List.mem_cons.1 h with rfl | h
    ·omega
    ·have := ih h; omega
  exact this l hs
 rcases List.mem_append.1 hc with hc | hc
 ·exact enc7_range 10 _ (by omega) (by omega) c hc
 ·exact bytesOf_bytes s c hc
theorem encM_bytes (e : SE1) (h : okE e) : ∀ c ∈ encM e, 0 ≤ c ∧ c < 256 := by
 obtain ⟨w3, w4, b0, b1, b2, h5, hs⟩ := h
 intro c hc
 simp only [encM, List.mem_append] at hc
 rcases hc with (((((hc | hc) | hc) | hc) | hc) | hc) | hc
 ·exact putN_bytes _ b0 c hc
 ·exact putN_bytes _ b1 c hc
 ·exact putN_bytes _ b2 c hc
 ·exact lstB_bytes _ (by omega) w3 c hc
 ·exact lstB_bytes _ (by omega) w4 c hc
 ·exact putN_bytes _ (by omega) c hc
 ·exact strsB_bytes _ (by omega) c hc

theorem bytesOf_get (s : ByteArray) (i : Nat) (h : i < s.size) : bt s (i : Int) = (bytesOf s)[i]'(by rw [bytesOf_length]; exact h) := by
 simp [bt, bytesOf, h]
 rfl
theorem rPutString_go (l : List Int) (s : ByteArray) (hl : l.length + 20 + s.size < 140737488355328) :
  Ev (fun k => r03_PutString.f k l s) (l ++ enc7 10 (max (s.size : Int) 0) ++ bytesOf s) := by
 have hlen := enc7_length 10 (max (s.size : Int) 0)
 have key : ∀ d (i : Nat) (p : List Int), p.length ≤ l.length + 10 → i + d = s.size → Ev (fun k => r03_PutString.l0 k s (p ++ (bytesOf s).take i) (i : Int)) (p ++ bytesOf s) := by
  intro d
  induction d with
  | zero =>
   intro i p hp hi
   refine Ev.step (f := fun _ => some (p ++ bytesOf s)) (fun k => ?_) (Ev.now _)
   rw [r03_PutString.l0, if_neg (show ¬ (i : Int) < (s.size : Int) by omega), List.take_of_length_le (by rw [bytesOf_length]; omega)]
  | succ d ih =>
   intro i p hp hi
   refine Ev.step (f := fun k => r03_PutString.l0 k s (p ++ (bytesOf s).take (i + 1)) ((i + 1 : Nat) : Int)) (fun k => ?_) (ih (i + 1) p hp (by omega))
   rw [r03_PutString.l0, if_pos (show (i : Int) < (s.size : Int) by omega), if_pos (show (0 : Int) ≤ (i : Int) by omega), if_pos (show (p ++ (bytesOf s).take i).length < 140737488355328 by simp [bytesOf_length]; omega), bytesOf_get s i (by omega), List.append_assoc, take_snoc (bytesOf s) i (by rw [bytesOf_length]; omega), w64 (by omega) (by omega)]
   rfl
 refine Ev.congr (fun k => by rw [r03_PutString.f]) (Ev.bind (rPut_go l _ (by omega) (by omega)) ?_)
 have := key s.size 0 (l ++ enc7 10 (max (s.size : Int) 0)) (by simp only [List.length_append]; omega) (by omega)
 simpa using this
theorem rlist_is (acc l : List Int) (h : acc.length + 10 * l.length + 60 < 140737488355328) (hw : ∀ x ∈ l, -9223372036854775808 ≤ x ∧ x ≤ 9223372036854775807) : Ev (fun k => r33_list.f k acc l) (acc ++ lstB l) := by
 refine Ev.congr (fun k => by rw [r33_list.f]) (Ev.bind (rPutList_go acc l h hw) ?_)
 unfold putL lstB
 by_cases c : okL (-1) l = true
 ·rw [if_pos c, if_pos c, List.append_assoc]
  exact Ev.ite_pos rfl (Ev.now _)
 ·rw [if_neg c, if_neg c]
  exact Ev.ite_neg (by decide) (Ev.bind (rPut_go acc 0 (by omega) (by decide)) (Ev.now _))
theorem rstrs_go (f0 f1 f2 : Int) (f3 f4 : List Int) (acc : List Int) (l : List ByteArray) (hl : l.length ≤ 9223372036854775000) (h : acc.length + (strsB l).length + 60 < 140737488355328) : Ev (fun k => r33_Encode.l0 k acc 0 f0 f1 f2 f3 f4 l) (acc ++ strsB l) := by
 have key : ∀ d (i : Nat), i + d = l.length → Ev (fun k => r33_Encode.l0 k (acc ++ strsB (l.take i)) (i : Int) f0 f1 f2 f3 f4 l) (acc ++ strsB l) := by
  intro d
  induction d with
  | zero =>
   intro i hi
   rw [List.take_of_length_le (by omega)]
   refine Ev.step (f := fun _ => some (acc ++ strsB l)) (fun k => ?_) (Ev.now _)
   rw [r33_Encode.l0, if_neg (by omega)]
  | succ d ih =>
   intro i hi
   have hlt : i < l.length := by omega
   have next := ih (i + 1) (by omega)
   have hm := strsB_mono l (i + 1)
   rw [strsB_take l i hlt, List.length_append] at hm
   have hb : (strB l[i]).length = (enc7 10 (l[i].size : Int)).length + l[i].size := by rw [strB, List.length_append, bytesOf_len]
   refine Ev.step (fun k => by rw [r33_Encode.l0, if_pos (show (i : Int) < (l.length : Int) by omega), if_pos (show (0 : Int) ≤ (i : Int) by omega), rdOf_nat _ l i hlt, w64 (x := (i : Int) + 1) (by omega) (by omega)]) ?_
   have hx : max (l[i].size : Int) 0 = (l[i].size : Int) := by omega
   have he := enc7_length 10 (l[i].size : Int)
   have hp := rPutString_go (acc ++ strsB (l.take i)) l[i] (by rw [List.length_append]; omega)
   rw [hx, List.append_assoc, List.append_assoc, ← List.append_assoc (strsB _), ] at hp
   refine Ev.bind hp ?_
   rw [show strsB (l.take i) ++ enc7 10 (l[i].size : Int) ++ bytesOf l[i] = strsB (l.take (i + 1)) by rw [strsB_take l i hlt, strB, List.append_assoc]]
   exact next
 have := key l.length 0 (by omega)
 rw [List.take_zero, show strsB [] = [] from rfl, List.append_nil] at this
 exact this
theorem rEncode_is (e : SE1) (h : okE e) : Ev (fun k => r33_Encode.f k e.f0 e.f1 e.f2 e.f3 e.f4 e.f5) (encM e) := by
 obtain ⟨w3, w4, b0, b1, b2, h5, hs⟩ := h
 have h0 := putN_len e.f0
 have h1 := putN_len e.f1
 have h2 := putN_len e.f2
 have h3 := lstB_len e.f3
 have h4 := lstB_len e.f4
 have h6 := putN_len (e.f5.length : Int)
 refine Ev.congr (fun k => by rw [r33_Encode.f]) (Ev.bind (rPut_go [] e.f0 (by simp) b0) ?_)
 refine Ev.bind (rPut_go ([] ++ putN e.f0) e.f1 (by simp only [List.nil_append]; omega) b1) ?_
 refine Ev.bind (rPut_go ([] ++ putN e.f0 ++ putN e.f1) e.f2 (by simp only [List.nil_append, List.length_append]; omega) b2) ?_
 refine Ev.bind (rlist_is ([] ++ putN e.f0 ++ putN e.f1 ++ putN e.f2) e.f3 (by simp only [List.nil_append, List.length_append]; omega) w3) ?_
 refine Ev.bind (rlist_is ([] ++ putN e.f0 ++ putN e.f1 ++ putN e.f2 ++ lstB e.f3) e.f4 (by simp only [List.nil_append, List.length_append]; omega) w4) ?_
 refine Ev.bind (rPut_go ([] ++ putN e.f0 ++ putN e.f1 ++ putN e.f2 ++ lstB e.f3 ++ lstB e.f4) (e.f5.length : Int) (by simp only [List.nil_append, List.length_append]; omega) (by omega)) ?_
 exact rstrs_go e.f0 e.f1 e.f2 e.f3 e.f4 (putN e.f0 ++ putN e.f1 ++ putN e.f2 ++ lstB e.f3 ++ lstB e.f4 ++ putN (e.f5.length : Int)) e.f5 h5 (by simp only [List.length_append]; omega)

theorem getL_len (b : List Int) (a : Int) (hb : b.length ≤ 9223372036854775000) (ha : 0 ≤ a) : (∀ p, lstO b a = some p → getL b a (b.length : Int) = (p.1, p.2, 0)) ∧ (lstO b a = none → (getL b a (b.length : Int)).2.2 ≠ 0) := by
 unfold lstO
 by_cases c : (getL b a big).2.2 = 0
 ·have hn := getL_next c ha
  rw [if_pos c]
  refine ⟨fun p hp => ?_, fun e => absurd e (by simp)⟩
  obtain rfl := Option.some.inj hp
  have e1 : getL b a (b.length : Int) = getL b a big := by
   unfold getL
   rw [if_pos hn.2.2.1, if_pos hn.2.2.1, if_neg (by omega), if_neg (by unfold big; omega)]
  rw [e1, ← c]
 ·rw [if_neg c]
  refine ⟨fun p hp => absurd hp (by simp), fun _ => ?_⟩
  intro hz
  have hn := getL_next hz ha
  apply c
  have e1 : getL b a big = getL b a (b.length : Int) := by
   unfold getL
   rw [if_pos hn.2.2.1, if_pos hn.2.2.1, if_neg (by unfold big; omega), if_neg (by omega)]
  rw [e1, hz]
theorem getS_len (b : List Int) (a : Int) (hb : b.length ≤ 9223372036854775000) (ha : 0 ≤ a) : ((getS b a big).2.2 = 0 → getS b a (b.length : Int) = getS b a big) ∧ ((getS b a big).2.2 ≠ 0 → (getS b a (b.length : Int)).2.2 ≠ 0) := by
 unfold getS
 dsimp only
 by_cases c : (get7 b a).2.2 = 0
 ·have h3 := get7_next c
  rw [if_pos c, if_pos c, if_neg (show ¬ (get7 b a).1 > big by unfold big; omega)]
  by_cases c4 : (b.length : Int) - (get7 b a).2.1 < (get7 b a).1
  ·rw [if_pos c4]
   refine ⟨fun h => absurd h (by decide), fun _ => ?_⟩
   split <;> decide
  ·rw [if_neg c4, if_neg (show ¬ (get7 b a).1 > (b.length : Int) by omega)]
   exact ⟨fun _ => rfl, fun h => h⟩
 ·rw [if_neg c, if_neg c]
  exact ⟨fun h => absurd h c, fun h => h⟩
theorem numO_get {b : List Int} {a : Int} : (∀ p, numO b a = some p → get7 b a = (p.1, p.2, 0)) ∧ (numO b a = none → (get7 b a).2.2 ≠ 0) := by
 unfold numO
 by_cases c : (get7 b a).2.2 = 0
 ·rw [if_pos c]
  refine ⟨fun p hp => ?_, fun e => absurd e (by simp)⟩
  obtain rfl := Option.some.inj hp
  rw [← c]
 ·rw [if_neg c]
  exact ⟨fun p hp => absurd hp (by simp), fun _ => c⟩
theorem rstrs_is (b : List Int) (hb : b.length ≤ 8796093022000) (hu : ∀ x ∈ b, 0 ≤ x ∧ x < 256) (f0 f1 f2 : Int) (f3 f4 : List Int) (n : Int) (hn : n ≤ 4611686018427387904) :
  ∀ (m : Nat) (i a : Int) (on : List ByteArray), 0 ≤ a → a ≤ (b.length : Int) → (b.length : Int) < a + m → 0 ≤ i → i ≤ a → (on.length : Int) ≤ a →
  Ev (fun k => r33_Decode.l0 k b a n i f0 f1 f2 f3 f4 on) (tupD ((strsO b m (n - i) a on).bind fun a7 => if a7.2 = (b.length : Int) then some ⟨f0, f1, f2, f3, f4, a7.1⟩ else none)) := by
 intro m
 induction m with
 | zero => intro i a on h0 h1 h2; omega
 | succ m ih =>
  intro i a on h0 h1 h2 hi hia hon
  have hg := rGetString_go b a (b.length : Int) (by omega) hu
  have hs := getS_len b a (by omega) h0
  rw [strsO]
  by_cases c : i < n
  ·rw [if_pos (show 0 < n - i by omega)]
   refine Ev.step (fun k => by rw [r33_Decode.l0, if_pos c]) (Ev.bind hg ?_)
   by_cases c2 : (getS b a big).2.2 = 0
   ·rw [if_pos c2, hs.1 c2]
    have hx := getS_next c2 h0
    have := ih (i + 1) (getS b a big).2.1 (on ++ [(getS b a big).1]) (by omega) (by omega) (by omega) (by omega) (by omega) (by rw [List.length_append, List.length_singleton]; omega)
    rw [show n - (i + 1) = n - i - 1 by omega] at this
    exact Ev.ite_pos c2 (Ev.ite_pos (by omega) (Ev.congr (fun k => by rw [w64 (x := i + 1) (by omega) (by omega)]) this))
   ·rw [if_neg c2]
    exact Ev.ite_neg (hs.2 c2) (Ev.now _)
  ·rw [if_neg (show ¬ 0 < n - i by omega)]
   refine Ev.step (fun k => by rw [r33_Decode.l0, if_neg c]) ?_
   rw [Option.bind_some]
   by_cases c3 : a = (b.length : Int)
   ·refine Ev.ite_pos c3 ?_
    rw [if_pos (show (on, a).2 = (b.length : Int) from c3)]
    exact Ev.now _
   ·refine Ev.ite_neg c3 ?_
    rw [if_neg (show ¬ (on, a).2 = (b.length : Int) from c3)]
    exact Ev.now _
theorem rj0_bad (b : List Int) (x5 x6 x8 x10 : Int) : Ev (fun k => r33_Decode.j0 k b x5 x6 x8 x10 true) badD := Ev.step (f := fun _ => some badD) (fun k => by rw [r33_Decode.j0, if_pos rfl]; rfl) (Ev.now _)
theorem rDecode_is (b : List Int) (hb : b.length ≤ 8796093022000) (hu : ∀ x ∈ b, 0 ≤ x ∧ x < 256) : Ev (fun k => r33_Decode.f k b) (tupD (decO b)) := by
 have B1 : b.length ≤ 140737488351232 := by omega
 have B2 : b.length ≤ 17592186000000 := by omega
 refine Ev.congr (fun k => by rw [r33_Decode.f]) (Ev.bind (rGet_go b 0 B1 hu) (Ev.bind (rGet_go b _ B1 hu) (Ev.bind (rGet_go b _ B1 hu) ?_)))
 unfold decO
 cases h1 : numO b 0 with
 | none => exact Ev.ite_neg (numO_get.2 h1) (rj0_bad _ _ _ _ _)
 | some p1 =>
 have q1 := numO_next h1 (by omega)
 rw [numO_get.1 p1 h1]
 refine Ev.ite_pos rfl ?_
 rw [Option.bind_some]
 dsimp only
 cases h2 : numO b p1.2 with
 | none => exact Ev.ite_neg (numO_get.2 h2) (rj0_bad _ _ _ _ _)
 | some p2 =>
 have q2 := numO_next h2 (by omega)
 rw [numO_get.1 p2 h2]
 refine Ev.ite_pos rfl ?_
 rw [Option.bind_some]
 dsimp only
 cases h3 : numO b p2.2 with
 | none =>
  refine Ev.congr (fun k => by rw [show ((get7 b p2.2).2.2 != 0) = true from bne_iff_ne.2 (numO_get.2 h3)]) (rj0_bad _ _ _ _ _)
 | some p3 =>
 have q3 := numO_next h3 (by omega)
 rw [numO_get.1 p3 h3]
 rw [Option.bind_some]
 dsimp only
 refine Ev.step (fun k => by rw [bne_self_eq_false, r33_Decode.j0, if_neg (by decide)]) (Ev.bind (rGetList_go b p3.2 (b.length : Int) B2 hu) ?_)
 cases h4 : lstO b p3.2 with
 | none => exact Ev.ite_neg ((getL_len b p3.2 (by omega) (by omega)).2 h4) (Ev.now _)
 | some p4 =>
 have q4 := lstO_next h4 (by omega)
 rw [(getL_len b p3.2 (by omega) (by omega)).1 p4 h4]
 refine Ev.ite_pos rfl (Ev.bind (rGetList_go b p4.2 (b.length : Int) B2 hu) ?_)
 rw [Option.bind_some]
 dsimp only
 cases h5 : lstO b p4.2 with
 | none => exact Ev.ite_neg ((getL_len b p4.2 (by omega) (by omega)).2 h5) (Ev.now _)
 | some p5 =>
 have q5 := lstO_next h5 (by omega)
 rw [(getL_len b p4.2 (by omega) (by omega)).1 p5 h5]
 refine Ev.ite_pos rfl (Ev.bind (rGet_go b p5.2 B1 hu) ?_)
 rw [Option.bind_some]
 dsimp only
 cases h6 : numO b p5.2 with
 | none => exact Ev.ite_neg (numO_get.2 h6) (Ev.now _)
 | some p6 =>
 have q6 := numO_next h6 (by omega)
 rw [numO_get.1 p6 h6]
 refine Ev.ite_pos rfl ?_
 rw [Option.bind_some]
 dsimp only
 have := rstrs_is b hb hu p1.1 p2.1 p3.1 p4.1 p5.1 p6.1 q6.2.1 (b.length + 2) 0 p6.2 [] (by omega) (by omega) (by omega) (by omega) (by omega) (by simp; omega)
 rw [Int.sub_zero] at this
 exact this

def crcS (x : Nat) : Nat := x / 2 ^^^ (if x % 2 = 1 then 2197175160 else 0)
theorem crcS_xor (a b : Nat) : crcS (a ^^^ b) = crcS a ^^^ crcS b := by
 unfold crcS
 have h1 : (a ^^^ b) / 2 = a / 2 ^^^ b / 2 := by simpa using Nat.xor_div_two_pow (a := a) (b := b) (n := 1)
 have h2 : (a ^^^ b) % 2 = (a % 2 ^^^ b % 2) := by simpa using Nat.xor_mod_two_pow (a := a) (b := b) (n := 1)
 rw [h1, h2]
 generalize a / 2 = u
 generalize b / 2 = v
 rcases Nat.mod_two_eq_zero_or_one a with ha | ha <;> rcases Nat.mod_two_eq_zero_or_one b with hb | hb <;> rw [ha, hb] <;> simp
 ·ac_rfl
 ·ac_rfl
 ·rw [show (u ^^^ 2197175160 ^^^ (v ^^^ 2197175160)) = (u ^^^ v) ^^^ (2197175160 ^^^ 2197175160) by ac_rfl, Nat.xor_self, Nat.xor_zero]
theorem crcS_two (y : Nat) : crcS (2 * y) = y := by
 unfold crcS
 rw [if_neg (by omega), Nat.xor_zero]
 omega
theorem crcS_lt {x : Nat} (h : x < 2 ^ 32) : crcS x < 2 ^ 32 := by
 unfold crcS
 refine Nat.xor_lt_two_pow (by omega) ?_
 split <;> decide
def crcSn : Nat → Nat → Nat
 | 0, x => x
 | n + 1, x => crcSn n (crcS x)
theorem crcSn_xor (n : Nat) : ∀ a b, crcSn n (a ^^^ b) = crcSn n a ^^^ crcSn n b := by
 induction n with
 | zero => intro a b; rfl
 | succ n ih => intro a b; simp only [crcSn]; rw [crcS_xor, ih]
theorem crcSn_pow (n : Nat) : ∀ y, crcSn n (2 ^ n * y) = y := by
 induction n with
 | zero => intro y; simp [crcSn]
 | succ n ih =>
  intro y
  simp only [crcSn]
  rw [show 2 ^ (n + 1) * y = 2 * (2 ^ n * y) by rw [Nat.pow_succ, Nat.mul_comm (2 ^ n) 2, Nat.mul_assoc], crcS_two, ih]
theorem crcSn_lt (n : Nat) : ∀ {x}, x < 2 ^ 32 → crcSn n x < 2 ^ 32 := by
 induction n with
 | zero => intro x h; exact h
 | succ n ih => intro x h; exact ih (crcS_lt h)
theorem crcSn_add (m n : Nat) : ∀ x, crcSn (m + n) x = crcSn n (crcSn m x) := by
 induction m with
 | zero => intro x; simp [crcSn]
 | succ m ih => intro x; rw [show m + 1 + n = (m + n) + 1 by omega]; simp only [crcSn]; rw [ih]
theorem crcSn_low (n x : Nat) : crcSn n x = x / 2 ^ n ^^^ crcSn n (x % 2 ^ n) := by
 have h : x ^^^ (x % 2 ^ n) = 2 ^ n * (x / 2 ^ n) := by
  have h1 : (x ^^^ (x % 2 ^ n)) / 2 ^ n = x / 2 ^ n := by
   rw [Nat.xor_div_two_pow, Nat.div_eq_of_lt (Nat.mod_lt x (Nat.two_pow_pos n)), Nat.xor_zero]
  have h2 : (x ^^^ (x % 2 ^ n)) % 2 ^ n = 0 := by
   rw [Nat.xor_mod_two_pow, Nat.mod_mod, Nat.xor_self]
  have h3 := Nat.div_add_mod (x ^^^ (x % 2 ^ n)) (2 ^ n)
  rw [h1, h2] at h3
  omega
 have h4 : x = (2 ^ n * (x / 2 ^ n)) ^^^ (x % 2 ^ n) := by
  rw [← h, Nat.xor_assoc, Nat.xor_self, Nat.xor_zero]
 conv => lhs; rw [h4]
 rw [crcSn_xor, crcSn_pow]

def crcT (x c : Nat) : Nat := crcSn 8 (x ^^^ c)
def crcN (x : Nat) (l : List Nat) : Nat := l.foldl crcT x
def le4 : List Nat → Nat
 | [] => 0
 | c :: l => c ^^^ 256 * le4 l
theorem crcT_lt {x c : Nat} (hx : x < 2 ^ 32) (hc : c < 256) : crcT x c < 2 ^ 32 := crcSn_lt 8 (Nat.xor_lt_two_pow hx (by omega))
theorem crcN_lt (l : List Nat) : ∀ {x}, x < 2 ^ 32 → (∀ c ∈ l, c < 256) → crcN x l < 2 ^ 32 := by
 induction l with
 | nil => intro x hx _; exact hx
 | cons c l ih => intro x hx hl; exact ih (crcT_lt hx (hl c (by simp))) (fun d hd => hl d (by simp [hd]))
theorem xor_nat (a b : Nat) (ha : a < 2 ^ 32) (hb : b < 2 ^ 32) : Go.bits .xor .u32 (a : Int) (b : Int) = ((a ^^^ b : Nat) : Int) := by
 have h : (a ^^^ b) < 2 ^ 32 := Nat.xor_lt_two_pow ha hb
 have ha' : a % 2 ^ IntKind.u32.bits = a := Nat.mod_eq_of_lt ha
 have hb' : b % 2 ^ IntKind.u32.bits = b := Nat.mod_eq_of_lt hb
 simp only [Go.bits, BitVec.ofInt_natCast, BitVec.toNat_xor, BitVec.toNat_ofNat, ha', hb']
 rw [IntKind.wrap_u32]
 omega
theorem wraps_u32 (n : Int) (h0 : 0 ≤ n) (h1 : n < 2 ^ 32) : IntKind.u32.wrap n = n := by rw [IntKind.wrap_u32]; omega
theorem and_one (a : Nat) (ha : a < 2 ^ 32) : Go.bits .and .u32 (a : Int) 1 = ((a % 2 : Nat) : Int) := by
 have := bits_mask .u32 32 (by decide) wraps_u32 1 (by decide) (a : Int) (by omega) (by omega)
 simpa using this
theorem and_fifteen (a : Nat) (ha : a < 2 ^ 32) : Go.bits .and .u32 (a : Int) 15 = ((a % 16 : Nat) : Int) := by
 have := bits_mask .u32 32 (by decide) wraps_u32 4 (by decide) (a : Int) (by omega) (by omega)
 simpa using this
theorem crcStep_nat (a : Nat) (ha : a < 2 ^ 32) : crcStep (a : Int) = (crcS a : Int) := by
 unfold crcStep crcS
 rw [and_one a ha]
 by_cases h : a % 2 = 1
 ·rw [if_pos (by omega), if_pos h, show ((a : Int) / 2) = ((a / 2 : Nat) : Int) by omega, show (2197175160 : Int) = ((2197175160 : Nat) : Int) from rfl, xor_nat _ _ (by omega) (by decide)]
 ·rw [if_neg (by omega), if_neg h, Nat.xor_zero]
  omega
theorem crcSn_snoc (n : Nat) : ∀ x, crcSn (n + 1) x = crcS (crcSn n x) := fun x => by rw [crcSn_add]; rfl
theorem crcSteps_nat (j a : Nat) (ha : a < 2 ^ 32) : crcSteps j (a : Int) = (crcSn j a : Int) := by
 induction j with
 | zero => rfl
 | succ j ih => rw [crcSn_snoc]; simp only [crcSteps]; rw [ih, crcStep_nat _ (crcSn_lt j ha)]
theorem crcHalf_nat (a : Nat) (ha : a < 2 ^ 32) : crcHalf (a : Int) = (crcSn 4 a : Int) := by
 unfold crcHalf tabZ tabV
 have h16 : a % 16 < 2 ^ 32 := by omega
 rw [and_fifteen a ha, Int.toNat_natCast, crcSteps_nat 4 _ h16, show ((a : Int) / 16) = ((a / 16 : Nat) : Int) by omega, xor_nat _ _ (by omega) (crcSn_lt 4 h16), crcSn_low 4 a]
theorem crcIn_nat (a c : Nat) (ha : a < 2 ^ 32) (hc : c < 256) : crcIn (a : Int) (c : Int) = (crcT a c : Int) := by
 unfold crcIn crcT
 have hx : a ^^^ c < 2 ^ 32 := Nat.xor_lt_two_pow ha (by omega)
 rw [show ((c : Int) % 4294967296) = (c : Int) by omega, xor_nat _ _ ha (by omega), crcHalf_nat _ hx, crcHalf_nat _ (crcSn_lt 4 hx), ← crcSn_add]
def nats (l : List Int) : List Nat := l.map Int.toNat
theorem nats_lt {l : List Int} (hl : ∀ x ∈ l, 0 ≤ x ∧ x < 256) : ∀ c ∈ nats l, c < 256 := by
 intro c hc
 obtain ⟨x, hx, rfl⟩ := List.mem_map.1 hc
 have := hl x hx
 omega
theorem crcIn_fold (l : List Int) : ∀ a : Nat, a < 2 ^ 32 → (∀ x ∈ l, 0 ≤ x ∧ x < 256) → l.foldl crcIn (a : Int) = (crcN a (nats l) : Int) := by
 induction l with
 | nil => intro a _ _; rfl
 | cons c l ih =>
  intro a ha hl
  have hc := hl c (by simp)
  have h1 : crcIn (a : Int) c = (crcT a c.toNat : Int) := by
   rw [← crcIn_nat a c.toNat ha (by omega), Int.toNat_of_nonneg hc.1]
  rw [List.foldl_cons, h1, ih _ (crcT_lt ha (by omega)) (fun x hx => hl x (by simp [hx]))]
  rfl
def crcE (s : Nat) (l : List Int) : Nat := 4294967295 ^^^ crcN (4294967295 ^^^ s) (nats l)
theorem crcE_lt {s : Nat} (hs : s < 2 ^ 32) {l : List Int} (hl : ∀ x ∈ l, 0 ≤ x ∧ x < 256) : crcE s l < 2 ^ 32 :=
 Nat.xor_lt_two_pow (by decide) (crcN_lt _ (Nat.xor_lt_two_pow (by decide) hs) (nats_lt hl))
theorem Extend_go (s : Nat) (hs : s < 2 ^ 32) (l : List Int) (hl : ∀ x ∈ l, 0 ≤ x ∧ x < 256) : checksum_Extend.f (s : Int) l = some (crcE s l : Int) := by
 unfold checksum_Extend.f crcE
 have h0 : 4294967295 ^^^ s < 2 ^ 32 := Nat.xor_lt_two_pow (by decide) hs
 rw [show (4294967295 : Int) = ((4294967295 : Nat) : Int) from rfl, xor_nat _ _ (by decide) hs, crcIn_fold l _ h0 hl, xor_nat _ _ (by decide) (crcN_lt _ h0 (nats_lt hl))]
theorem rtake_go (x c : Nat) (hx : x < 2 ^ 32) : ∀ (j : Nat), j ≤ 8 → Ev (fun k => r04_take.l0 k (crcSn (8 - j) x : Int) ((8 - j : Nat) : Int)) (crcSn 8 x : Int) := by
 intro j
 induction j with
 | zero =>
  intro _
  refine Ev.step (f := fun _ => some (crcSn 8 x : Int)) (fun k => ?_) (Ev.now _)
  rw [r04_take.l0, if_neg (by decide)]
 | succ j ih =>
  intro hj
  refine Ev.step (f := fun k => r04_take.l0 k (crcSn (8 - j) x : Int) ((8 - j : Nat) : Int)) (fun k => ?_) (ih (by omega))
  have hy : crcSn (8 - (j + 1)) x < 2 ^ 32 := crcSn_lt _ hx
  have e : crcSn (8 - j) x = crcS (crcSn (8 - (j + 1)) x) := by rw [show 8 - j = (8 - (j + 1)) + 1 by omega, crcSn_snoc]
  rw [e]
  generalize crcSn (8 - (j + 1)) x = y at hy
  rw [r04_take.l0, if_pos (show ((8 - (j + 1) : Nat) : Int) < 8 by omega), w64 (by omega) (by omega), show ((8 - (j + 1) : Nat) : Int) + 1 = ((8 - j : Nat) : Int) by omega]
  rw [Int.tmod_eq_emod_of_nonneg (by omega), Int.tdiv_eq_ediv_of_nonneg (by omega)]
  have e2 : ((y : Int) / 2) % 4294967296 = ((y / 2 : Nat) : Int) := by omega
  rw [e2]
  unfold crcS
  by_cases h : y % 2 = 1
  ·rw [if_pos (by omega), if_pos h, show (2197175160 : Int) = ((2197175160 : Nat) : Int) from rfl, xor_nat _ _ (by omega) (by decide)]
  ·rw [if_neg (by omega), if_neg h, Nat.xor_zero]
theorem rtake (x c : Nat) (hx : x < 2 ^ 32) (hc : c < 256) : Ev (fun k => r04_take.f k (x : Int) (c : Int)) (crcT x c : Int) := by
 unfold r04_take.f
 rw [show ((c : Int) % 4294967296) = (c : Int) by omega, xor_nat _ _ hx (by omega)]
 exact rtake_go (x ^^^ c) c (Nat.xor_lt_two_pow hx (by omega)) 8 (by omega)
theorem rExtend_loop (l : List Int) (hlen : l.length ≤ 140737488351232) (hl : ∀ x ∈ l, 0 ≤ x ∧ x < 256) : ∀ (n : Nat) (a : Nat), a < 2 ^ 32 → n ≤ l.length → Ev (fun k => r04_Extend.l0 k l (a : Int) ((l.length - n : Nat) : Int)) ((4294967295 ^^^ crcN a (nats (l.drop (l.length - n))) : Nat) : Int) := by
 intro n
 induction n with
 | zero =>
  intro a ha _
  refine Ev.step (f := fun _ => some ((4294967295 ^^^ crcN a (nats (l.drop (l.length - 0))) : Nat) : Int)) (fun k => ?_) (Ev.now _)
  rw [r04_Extend.l0, if_neg (by omega), show (4294967295 : Int) = ((4294967295 : Nat) : Int) from rfl, xor_nat _ _ (by decide) ha]
  simp [nats, crcN]
 | succ n ih =>
  intro a ha hn
  have hi : l.length - (n + 1) < l.length := by omega
  have hc := hl _ (List.getElem_mem hi)
  have ed : l.drop (l.length - (n + 1)) = l[l.length - (n + 1)] :: l.drop (l.length - n) := by
   rw [drop_cons l _ hi, show l.length - (n + 1) + 1 = l.length - n by omega]
  rw [ed]
  have h2 := ih (crcT a (l[l.length - (n + 1)]).toNat) (crcT_lt ha (by omega)) (by omega)
  have h3 := rtake a (l[l.length - (n + 1)]).toNat ha (by omega)
  rw [Int.toNat_of_nonneg hc.1] at h3
  rw [show crcN a (nats (l[l.length - (n + 1)] :: l.drop (l.length - n))) = crcN (crcT a (l[l.length - (n + 1)]).toNat) (nats (l.drop (l.length - n))) from rfl]
  refine Ev.step (fun k => ?_) (Ev.bind (f := fun k t => r04_Extend.l0 k l t ((l.length - n : Nat) : Int)) h3 h2)
  rw [r04_Extend.l0, if_pos (by omega), if_pos (by omega), rd_nat l _ hi, w64 (by omega) (by omega), show ((l.length - (n + 1) : Nat) : Int) + 1 = ((l.length - n : Nat) : Int) by omega]
theorem rExtend_go (s : Nat) (hs : s < 2 ^ 32) (l : List Int) (hlen : l.length ≤ 140737488351232) (hl : ∀ x ∈ l, 0 ≤ x ∧ x < 256) : Ev (fun k => r04_Extend.f k (s : Int) l) (crcE s l : Int) := by
 unfold r04_Extend.f crcE
 rw [show (4294967295 : Int) = ((4294967295 : Nat) : Int) from rfl, xor_nat _ _ (by decide) hs]
 have h := rExtend_loop l hlen hl l.length (4294967295 ^^^ s) (Nat.xor_lt_two_pow (by decide) hs) (Nat.le_refl _)
 rw [Nat.sub_self] at h
 exact h
theorem Sum_go (l : List Int) (hl : ∀ x ∈ l, 0 ≤ x ∧ x < 256) : checksum_Sum.f l = some (crcE 0 l : Int) := by
 unfold checksum_Sum.f
 have h := Extend_go 0 (by decide) l hl
 rw [show ((0 : Nat) : Int) = 0 from rfl] at h
 rw [h, Option.bind_some]
theorem rSum_go (l : List Int) (hlen : l.length ≤ 140737488351232) (hl : ∀ x ∈ l, 0 ≤ x ∧ x < 256) : Ev (fun k => r04_Sum.f k l) (crcE 0 l : Int) := by
 unfold r04_Sum.f
 have h := rExtend_go 0 (by decide) l hlen hl
 exact Ev.bind h (Ev.now _)

def four4 (s : Nat) : List Int := [((s / 16777216 % 256 : Nat) : Int), ((s / 65536 % 256 : Nat) : Int), ((s / 256 % 256 : Nat) : Int), ((s % 256 : Nat) : Int)]
def sealL (l : List Int) : List Int := (enc7 10 (l.length : Int) ++ l) ++ four4 (crcE 0 (enc7 10 (l.length : Int) ++ l))
theorem head_range (n : Nat) (hn : n ≤ 140737488351232) : ∀ c ∈ enc7 10 (n : Int), 0 ≤ c ∧ c < 256 :=
 enc7_range 10 _ (by omega) (Int.lt_of_le_of_lt (show (n : Int) ≤ 140737488351232 by omega) (by decide))
theorem body_range (l : List Int) (hlen : l.length ≤ 140737488351232) (hl : ∀ x ∈ l, 0 ≤ x ∧ x < 256) : ∀ c ∈ enc7 10 (l.length : Int) ++ l, 0 ≤ c ∧ c < 256 := by
 intro c hc
 rcases List.mem_append.1 hc with h | h
 ·exact head_range l.length hlen c h
 ·exact hl c h
theorem four_go (s : Nat) (hs : s < 2 ^ 32) : r04_four.f (s : Int) = some (four4 s) := by
 unfold r04_four.f four4
 simp only [Int.tdiv_eq_ediv_of_nonneg (Int.natCast_nonneg s), Int.tmod_eq_emod_of_nonneg (Int.natCast_nonneg s)]
 rw [show ((s : Int) / 16777216 % 4294967296 % 256) = ((s / 16777216 % 256 : Nat) : Int) by omega, show ((s : Int) / 65536 % 4294967296 % 256) = ((s / 65536 % 256 : Nat) : Int) by omega,
  show ((s : Int) / 256 % 4294967296 % 256) = ((s / 256 % 256 : Nat) : Int) by omega, show ((s : Int) % 256 % 256) = ((s % 256 : Nat) : Int) by omega]
theorem Seal_go (l : List Int) (hlen : l.length ≤ 140737488351232) (hl : ∀ x ∈ l, 0 ≤ x ∧ x < 256) : checksum_Seal.f l = some (sealL l) := by
 have hb := body_range l hlen hl
 have he := enc7_length 10 (l.length : Int)
 have hp := Put_go [] (l.length : Int) (by simp) (by omega)
 rw [show max (l.length : Int) 0 = (l.length : Int) by omega, List.nil_append] at hp
 unfold checksum_Seal.f sealL
 rw [hp, Option.bind_some, if_pos (by omega), Option.bind_some, Sum_go _ hb, Option.bind_some, Option.bind_some]
 generalize crcE 0 (enc7 10 (l.length : Int) ++ l) = s
 rw [if_pos (by simp only [List.length_append, List.length_cons, List.length_nil]; omega)]
 unfold four4
 rw [show ((s : Int) / 16777216 % 256) = ((s / 16777216 % 256 : Nat) : Int) by omega, show ((s : Int) / 65536 % 256) = ((s / 65536 % 256 : Nat) : Int) by omega,
  show ((s : Int) / 256 % 256) = ((s / 256 % 256 : Nat) : Int) by omega, show ((s : Int) % 256) = ((s % 256 : Nat) : Int) by omega]

theorem rSeal_tail (x s : List Int) (h4 : s.length = 4) (hx : x.length + 10 < 140737488355328) : ∀ (d i : Nat), i + d = 4 → Ev (fun k => r04_Seal.l1 k (x ++ s.take i) s (i : Int)) (x ++ s) := by
 intro d
 induction d with
 | zero =>
  intro i hi
  refine Ev.step (f := fun _ => some (x ++ s)) (fun k => ?_) (Ev.now _)
  rw [r04_Seal.l1, if_neg (by omega), List.take_of_length_le (by omega)]
 | succ d ih =>
  intro i hi
  refine Ev.step (f := fun k => r04_Seal.l1 k (x ++ s.take (i + 1)) s ((i + 1 : Nat) : Int)) (fun k => ?_) (ih (i + 1) (by omega))
  rw [r04_Seal.l1, if_pos (by omega), if_pos (by omega), if_pos (by omega), if_pos (by simp; omega), rd_nat s i (by omega), List.append_assoc, take_snoc s i (by omega), w64 (by omega) (by omega)]
  rfl
theorem rSeal_go (l : List Int) (hlen : l.length ≤ 140737488351000) (hl : ∀ x ∈ l, 0 ≤ x ∧ x < 256) : Ev (fun k => r04_Seal.f k l) (sealL l) := by
 have hb := body_range l (by omega) hl
 have he := enc7_length 10 (l.length : Int)
 have hp := rPut_go [] (l.length : Int) (by simp) (by omega)
 rw [show max (l.length : Int) 0 = (l.length : Int) by omega, List.nil_append] at hp
 have hs := crcE_lt (s := 0) (by decide) hb
 have key : ∀ d (i : Nat), i + d = l.length → Ev (fun k => r04_Seal.l0 k l (enc7 10 (l.length : Int) ++ l.take i) (i : Int)) (sealL l) := by
  intro d
  induction d with
  | zero =>
   intro i hi
   have h4 : (four4 (crcE 0 (enc7 10 (l.length : Int) ++ l))).length = 4 := rfl
   have hq := rSeal_tail (enc7 10 (l.length : Int) ++ l) _ h4 (by rw [List.length_append]; omega) 4 0 (by omega)
   rw [List.take_zero, List.append_nil] at hq
   have hsum := rSum_go (enc7 10 (l.length : Int) ++ l) (by rw [List.length_append]; omega) hb
   refine Ev.step (fun k => ?_) (Ev.bind (f := fun k t => (r04_four.f t).bind fun t214 => (r04_Seal.l1 k (enc7 10 (l.length : Int) ++ l) t214 0)) hsum (Ev.bind_eq (four_go _ hs) hq))
   rw [r04_Seal.l0, if_neg (by omega), List.take_of_length_le (by omega)]
  | succ d ih =>
   intro i hi
   refine Ev.step (f := fun k => r04_Seal.l0 k l (enc7 10 (l.length : Int) ++ l.take (i + 1)) ((i + 1 : Nat) : Int)) (fun k => ?_) (ih (i + 1) (by omega))
   rw [r04_Seal.l0, if_pos (by omega), if_pos (by omega), if_pos (by rw [List.length_append, List.length_take]; omega), rd_nat l i (by omega), List.append_assoc, take_snoc l i (by omega), w64 (by omega) (by omega)]
   rfl
 have h0 := key l.length 0 (by omega)
 rw [List.take_zero, List.append_nil] at h0
 unfold r04_Seal.f
 exact Ev.bind hp h0

def ok4 (b : List Int) (e : Nat) (s : Nat) : Prop :=
 rd b (e : Int) = ((s / 16777216 % 256 : Nat) : Int) ∧ rd b ((e + 1 : Nat) : Int) = ((s / 65536 % 256 : Nat) : Int) ∧ rd b ((e + 2 : Nat) : Int) = ((s / 256 % 256 : Nat) : Int) ∧ rd b ((e + 3 : Nat) : Int) = ((s % 256 : Nat) : Int)
instance (b : List Int) (e s : Nat) : Decidable (ok4 b e s) := inferInstanceAs (Decidable (_ ∧ _))
def openB (b : List Int) (at_ : Nat) (from_ n : Nat) : List Int × Int × Int :=
 if from_ + n + 4 > b.length then ([], 0, 5) else
 if ok4 b (from_ + n) (crcE 0 ((b.take (from_ + n)).drop at_)) then ((b.take (from_ + n)).drop from_, ((from_ + n + 4 : Nat) : Int), 0) else ([], 0, 6)
def openL (b : List Int) (at_ most : Int) : List Int × Int × Int :=
 let g := get7 b at_
 if g.2.2 = 0 then if g.1 > most then ([], 0, 4) else openB b at_.toNat g.2.1.toNat g.1.toNat else ([], 0, g.2.2)
theorem openB_out {b : List Int} {a f n : Nat} (h : f + n + 4 > b.length) : openB b a f n = ([], 0, 5) := if_pos h
theorem openB_in {b : List Int} {a f n : Nat} (h : f + n + 4 ≤ b.length) : openB b a f n = if ok4 b (f + n) (crcE 0 ((b.take (f + n)).drop a)) then ((b.take (f + n)).drop f, ((f + n + 4 : Nat) : Int), 0) else ([], 0, 6) := if_neg (by omega)
theorem cut_range {b : List Int} (hu : ∀ x ∈ b, 0 ≤ x ∧ x < 256) (e a : Nat) : ∀ x ∈ (b.take e).drop a, 0 ≤ x ∧ x < 256 := fun x hx => hu x (List.mem_of_mem_take (List.mem_of_mem_drop hx))
theorem Clone_go (l : List Int) (h : l.length ≤ 140737488351232) : slices_Clone_byte_byte.f l = some l := by
 unfold slices_Clone_byte_byte.f
 rw [Option.bind_some, List.length_nil, if_pos (by omega), List.nil_append]
theorem Open_go (b : List Int) (at_ most : Int) (hb : b.length ≤ 140737488351000) (hu : ∀ x ∈ b, 0 ≤ x ∧ x < 256) : Ev (fun k => checksum_Open.f k b at_ most) (openL b at_ most) := by
 refine Ev.congr (fun k => by rw [checksum_Open.f]) (Ev.bind (Get_go b at_ (by omega) hu) ?_)
 unfold openL
 by_cases h0 : (get7 b at_).2.2 = 0
 ·obtain ⟨g0, g1, p, _, g9, g2, g3, g4, g5, g6⟩ := get7_ok h0
  rw [g2]
  refine Ev.ite_pos rfl ?_
  simp only [if_true]
  by_cases h1 : val7 p > most
  ·simp only [if_pos h1]; exact Ev.now _
  ·simp only [if_neg h1]
   obtain ⟨n, hn⟩ := Int.eq_ofNat_of_zero_le g4
   obtain ⟨a, rfl⟩ := Int.eq_ofNat_of_zero_le g0
   rw [hn] at g5 ⊢
   have ef : (a : Int) + (p.length : Int) = ((a + p.length : Nat) : Int) := by omega
   rw [ef]
   simp only [Int.toNat_natCast]
   have hf : a + p.length ≤ b.length := by omega
   have haf : a ≤ a + p.length := by omega
   generalize a + p.length = f at hf haf
   clear h0 h1 g0 g1 g9 g2 g3 g6 ef g4 hn
   have e1 : wrap64 ((b.length : Int) - (f : Int)) = ((b.length - f : Nat) : Int) := by rw [w64 (by omega) (by omega)]; omega
   rw [e1]
   by_cases h2 : ((b.length - f : Nat) : Int) < 4
   ·rw [openB_out (by omega)]; exact Ev.ite_pos h2 (Ev.now _)
   ·refine Ev.ite_neg h2 ?_
    rw [w64 (x := ((b.length - f : Nat) : Int) - 4) (by omega) (by omega)]
    by_cases h3 : (n : Int) > ((b.length - f : Nat) : Int) - 4
    ·rw [openB_out (by omega)]; exact Ev.ite_pos h3 (Ev.now _)
    ·have h4 : f + n + 4 ≤ b.length := by omega
     refine Ev.ite_neg h3 ?_
     clear h2 h3 e1
     have hcl : ((b.take (f + n)).drop f).length ≤ 140737488351232 := by simp only [List.length_drop, List.length_take]; omega
     have l0 : ((f + n : Nat) : Int) < (b.length : Int) := by omega
     have l1 : ((f + n + 1 : Nat) : Int) < (b.length : Int) := by omega
     have l2 : ((f + n + 2 : Nat) : Int) < (b.length : Int) := by omega
     have l3 : ((f + n + 3 : Nat) : Int) < (b.length : Int) := by omega
     have p0 : ∀ m : Nat, (0 : Int) ≤ (m : Int) := fun m => Int.natCast_nonneg m
     have la : (a : Int) ≤ ((f + n : Nat) : Int) := by omega
     have lf : (f : Int) ≤ ((f + n : Nat) : Int) := by omega
     have lb : ((f + n : Nat) : Int) ≤ (b.length : Int) := by omega
     have e2 : wrap64 ((f : Int) + (n : Int)) = ((f + n : Nat) : Int) := by rw [w64 (by omega) (by omega)]; omega
     have e3 : wrap64 (((f + n : Nat) : Int) + 1) = ((f + n + 1 : Nat) : Int) := by rw [w64 (by omega) (by omega)]; omega
     have e4 : wrap64 (((f + n : Nat) : Int) + 2) = ((f + n + 2 : Nat) : Int) := by rw [w64 (by omega) (by omega)]; omega
     have e5 : wrap64 (((f + n : Nat) : Int) + 3) = ((f + n + 3 : Nat) : Int) := by rw [w64 (by omega) (by omega)]; omega
     have e6 : wrap64 (((f + n : Nat) : Int) + 4) = ((f + n + 4 : Nat) : Int) := by rw [w64 (by omega) (by omega)]; omega
     rw [openB_in h4, e2, e3, e4, e5, e6]
     simp only [Int.toNat_natCast]
     have hc := Clone_go ((b.take (f + n)).drop f) hcl
     have hs := Sum_go ((b.take (f + n)).drop a) (cut_range hu (f + n) a)
     rw [hc, hs]
     clear hcl e2 e3 e4 e5 e6 hc hs
     generalize crcE 0 ((b.take (f + n)).drop a) = s
     have q1 : (s : Int) / 16777216 % 256 = ((s / 16777216 % 256 : Nat) : Int) := by omega
     have q2 : (s : Int) / 65536 % 256 = ((s / 65536 % 256 : Nat) : Int) := by omega
     have q3 : (s : Int) / 256 % 256 = ((s / 256 % 256 : Nat) : Int) := by omega
     have q4 : (s : Int) % 256 = ((s % 256 : Nat) : Int) := by omega
     refine Ev.ite_pos (p0 _) (Ev.ite_pos la (Ev.ite_pos lb (Ev.bind_eq rfl (Ev.ite_pos (p0 _) (Ev.ite_pos l0 ?_)))))
     rw [q1, q2, q3, q4]
     by_cases k1 : rd b ((f + n : Nat) : Int) = ((s / 16777216 % 256 : Nat) : Int)
     ·refine Ev.ite_pos k1 (Ev.ite_pos (p0 _) (Ev.ite_pos l1 ?_))
      by_cases k2 : rd b ((f + n + 1 : Nat) : Int) = ((s / 65536 % 256 : Nat) : Int)
      ·refine Ev.ite_pos k2 (Ev.ite_pos (p0 _) (Ev.ite_pos l2 ?_))
       by_cases k3 : rd b ((f + n + 2 : Nat) : Int) = ((s / 256 % 256 : Nat) : Int)
       ·refine Ev.ite_pos k3 (Ev.ite_pos (p0 _) (Ev.ite_pos l3 ?_))
        by_cases k4 : rd b ((f + n + 3 : Nat) : Int) = ((s % 256 : Nat) : Int)
        ·refine Ev.ite_pos k4 (Ev.ite_pos (p0 _) (Ev.ite_pos lf ?_))
         rw [if_pos (show ok4 b (f + n) s from ⟨k1, k2, k3, k4⟩)]
         exact Ev.bind_eq rfl (Ev.now _)
        ·rw [if_neg (show ¬ ok4 b (f + n) s from fun h => k4 h.2.2.2)]
         exact Ev.ite_neg k4 (Ev.now _)
       ·rw [if_neg (show ¬ ok4 b (f + n) s from fun h => k3 h.2.2.1)]
        exact Ev.ite_neg k3 (Ev.now _)
      ·rw [if_neg (show ¬ ok4 b (f + n) s from fun h => k2 h.2.1)]
       exact Ev.ite_neg k2 (Ev.now _)
     ·rw [if_neg (show ¬ ok4 b (f + n) s from fun h => k1 h.1)]
      exact Ev.ite_neg k1 (Ev.now _)
 ·refine Ev.ite_neg h0 ?_
  simp only [if_neg h0]
  exact Ev.now _
theorem ropen_copy (b : List Int) (f e : Nat) (hb : b.length ≤ 140737488351000) (hfe : f ≤ e) (he : e + 4 ≤ b.length) : ∀ (d i : Nat), i + d = e - f → Ev (fun k => r04_Open.l1 k b (e : Int) (((b.take e).drop f).take i) ((f + i : Nat) : Int)) ((b.take e).drop f, ((e + 4 : Nat) : Int), 0) := by
 have hl : ((b.take e).drop f).length = e - f := by rw [List.length_drop, List.length_take]; omega
 intro d
 induction d with
 | zero =>
  intro i hi
  refine Ev.step (f := fun _ => some ((b.take e).drop f, ((e + 4 : Nat) : Int), 0)) (fun k => ?_) (Ev.now _)
  rw [r04_Open.l1, if_neg (by omega), List.take_of_length_le (by omega), w64 (by omega) (by omega)]
  rfl
 | succ d ih =>
  intro i hi
  refine Ev.step (f := fun k => r04_Open.l1 k b (e : Int) (((b.take e).drop f).take (i + 1)) ((f + (i + 1) : Nat) : Int)) (fun k => ?_) (ih (i + 1) (by omega))
  have hg : ((b.take e).drop f)[i]'(by omega) = b[f + i]'(by omega) := by rw [List.getElem_drop, List.getElem_take]
  rw [r04_Open.l1, if_pos (by omega), if_pos (by omega), if_pos (by omega), if_pos (by rw [List.length_take]; omega), rd_nat b (f + i) (by omega), ← hg, take_snoc _ i (by omega), w64 (by omega) (by omega)]
  rfl
theorem ropen_four (b : List Int) (f e s : Nat) (hb : b.length ≤ 140737488351000) (hfe : f ≤ e) (he : e + 4 ≤ b.length) : Ev (fun k => r04_Open.l0 k b (f : Int) (e : Int) (four4 s) 0) (if ok4 b e s then ((b.take e).drop f, ((e + 4 : Nat) : Int), 0) else ([], 0, 6)) := by
 have fin : ∀ r, Ev (fun k => r04_Open.l1 k b (e : Int) [] (f : Int)) r → Ev (fun k => r04_Open.l0 k b (f : Int) (e : Int) (four4 s) 4) r := fun r h => Ev.step (fun k => by rw [r04_Open.l0, if_neg (by decide)]) h
 have step : ∀ (i : Nat) (v : Int) (r : List Int × Int × Int), i < 4 → rd (four4 s) (i : Int) = v → (rd b ((e + i : Nat) : Int) = v → Ev (fun k => r04_Open.l0 k b (f : Int) (e : Int) (four4 s) ((i + 1 : Nat) : Int)) r) → (¬ rd b ((e + i : Nat) : Int) = v → r = ([], 0, 6)) →
   Ev (fun k => r04_Open.l0 k b (f : Int) (e : Int) (four4 s) (i : Int)) r := by
  intro i v r hi hv h1 h2
  have e1 : wrap64 ((e : Int) + (i : Int)) = ((e + i : Nat) : Int) := by rw [w64 (by omega) (by omega)]; omega
  have e2 : wrap64 ((i : Int) + 1) = ((i + 1 : Nat) : Int) := by rw [w64 (by omega) (by omega)]; omega
  have hl4 : (four4 s).length = 4 := rfl
  by_cases h : rd b ((e + i : Nat) : Int) = v
  ·refine Ev.step (fun k => ?_) (h1 h)
   rw [r04_Open.l0, if_pos (by omega), e1, e2, if_pos (by omega), if_pos (by omega), if_pos (by omega), if_pos (by omega), hv, if_pos h]
  ·rw [h2 h]
   refine Ev.step (f := fun _ => some (([] : List Int), 0, 6)) (fun k => ?_) (Ev.now _)
   rw [r04_Open.l0, if_pos (by omega), e1, e2, if_pos (by omega), if_pos (by omega), if_pos (by omega), if_pos (by omega), hv, if_neg h]
 refine step 0 _ _ (by decide) rfl (fun k1 => ?_) (fun k1 => if_neg (fun h => k1 h.1))
 refine step 1 _ _ (by decide) rfl (fun k2 => ?_) (fun k2 => if_neg (fun h => k2 h.2.1))
 refine step 2 _ _ (by decide) rfl (fun k3 => ?_) (fun k3 => if_neg (fun h => k3 h.2.2.1))
 refine step 3 _ _ (by decide) rfl (fun k4 => ?_) (fun k4 => if_neg (fun h => k4 h.2.2.2))
 rw [if_pos (show ok4 b e s from ⟨k1, k2, k3, k4⟩)]
 refine fin _ ?_
 have h := ropen_copy b f e hb hfe he (e - f) 0 (by omega)
 rw [List.take_zero] at h
 exact h
theorem rOpen_go (b : List Int) (at_ most : Int) (hb : b.length ≤ 140737488351000) (hu : ∀ x ∈ b, 0 ≤ x ∧ x < 256) : Ev (fun k => r04_Open.f k b at_ most) (openL b at_ most) := by
 refine Ev.congr (fun k => by rw [r04_Open.f]) (Ev.bind (rGet_go b at_ (by omega) hu) ?_)
 unfold openL
 by_cases h0 : (get7 b at_).2.2 = 0
 ·obtain ⟨g0, g1, p, _, g9, g2, g3, g4, g5, g6⟩ := get7_ok h0
  rw [g2]
  refine Ev.ite_pos rfl ?_
  simp only [if_true]
  by_cases h1 : val7 p > most
  ·simp only [if_pos h1]; exact Ev.now _
  ·simp only [if_neg h1]
   obtain ⟨n, hn⟩ := Int.eq_ofNat_of_zero_le g4
   obtain ⟨a, rfl⟩ := Int.eq_ofNat_of_zero_le g0
   rw [hn] at g5 ⊢
   have ef : (a : Int) + (p.length : Int) = ((a + p.length : Nat) : Int) := by omega
   rw [ef]
   simp only [Int.toNat_natCast]
   have hf : a + p.length ≤ b.length := by omega
   have haf : a ≤ a + p.length := by omega
   generalize a + p.length = f at hf haf
   clear h0 h1 g0 g1 g9 g2 g3 g6 ef g4 hn
   have e1 : wrap64 ((b.length : Int) - (f : Int)) = ((b.length - f : Nat) : Int) := by rw [w64 (by omega) (by omega)]; omega
   rw [e1]
   have quit : Ev (fun k => r04_Open.j0 k b (a : Int) (n : Int) (f : Int) true) ([], 0, 5) := by
    refine Ev.step (f := fun _ => some ([], 0, 5)) (fun k => ?_) (Ev.now _)
    rw [r04_Open.j0, if_pos rfl]
   unfold openB
   by_cases h2 : (n : Int) > ((b.length - f : Nat) : Int)
   ·rw [if_pos (show f + n + 4 > b.length by omega)]; exact Ev.ite_pos h2 quit
   ·refine Ev.ite_neg h2 ?_
    rw [w64 (x := ((b.length - f : Nat) : Int) - (n : Int)) (by omega) (by omega)]
    by_cases h3 : ((b.length - f : Nat) : Int) - (n : Int) < 4
    ·rw [if_pos (show f + n + 4 > b.length by omega), decide_eq_true h3]; exact quit
    ·have h4 : f + n + 4 ≤ b.length := by omega
     have e2 : wrap64 ((f : Int) + (n : Int)) = ((f + n : Nat) : Int) := by rw [w64 (by omega) (by omega)]; omega
     rw [if_neg (show ¬ f + n + 4 > b.length by omega), decide_eq_false h3]
     have hs := rSum_go ((b.take (f + n)).drop a) (by simp only [List.length_drop, List.length_take]; omega) (cut_range hu (f + n) a)
     have hq := ropen_four b f (f + n) (crcE 0 ((b.take (f + n)).drop a)) hb (by omega) h4
     have hlt := crcE_lt (s := 0) (by decide) (cut_range hu (f + n) a)
     refine Ev.step (fun k => ?_) (Ev.bind (f := fun k t => (r04_four.f t).bind fun t237 => (r04_Open.l0 k b (f : Int) ((f + n : Nat) : Int) t237 0)) hs (Ev.bind_eq (four_go _ hlt) hq))
     rw [r04_Open.j0, if_neg (by decide), e2, if_pos (by omega), if_pos (by omega), if_pos (by omega)]
     simp only [Int.toNat_natCast]
 ·refine Ev.ite_neg h0 ?_
  simp only [if_neg h0]
  exact Ev.now _

def frames (l : List SE1) : List Int := (l.map fun e => sealL (encM e)).flatten
theorem frames_cons (e : SE1) (l : List SE1) : frames (e :: l) = sealL (encM e) ++ frames l := by simp [frames]
theorem frames_append (l m : List SE1) : frames (l ++ m) = frames l ++ frames m := by simp [frames]
theorem frames_take (l : List SE1) (i : Nat) (h : i < l.length) : frames (l.take (i + 1)) = frames (l.take i) ++ sealL (encM l[i]) := by
 rw [← take_snoc l i h, frames_append]
 simp [frames]
theorem frames_split (l : List SE1) (i : Nat) : frames l = frames (l.take i) ++ frames (l.drop i) := by rw [← frames_append, List.take_append_drop]
theorem frames_le (l : List SE1) (i : Nat) : (frames (l.take i)).length ≤ (frames l).length := by
 rw [frames_split l i, List.length_append]; omega
theorem Write_is (l : List SE1) (h : ∀ e ∈ l, okE e) (hn : l.length ≤ 9223372036854775000) (hs : (frames l).length < 140737488355328) : Ev (fun k => manifest_Write.f k l) (frames l) := by
 have key : ∀ d (i : Nat), i + d = l.length → Ev (fun k => manifest_Write.l0 k (frames (l.take i)) l (l.length : Int) (i : Int)) (frames l) := by
  intro d
  induction d with
  | zero =>
   intro i hi
   rw [List.take_of_length_le (by omega)]
   refine Ev.step (f := fun _ => some (frames l)) (fun k => ?_) (Ev.now _)
   rw [manifest_Write.l0, if_neg (by omega)]
  | succ d ih =>
   intro i hi
   have hlt : i < l.length := by omega
   have next := ih (i + 1) (by omega)
   have hk := h _ (List.getElem_mem hlt)
   have hle := frames_le l (i + 1)
   rw [frames_take l i hlt, List.length_append] at hle
   have hel := encM_len l[i]
   have := hk.2.2.2.2.2.2
   refine Ev.step (fun k => by rw [manifest_Write.l0, if_pos (show (i : Int) < (l.length : Int) by omega), if_pos (show (0 : Int) ≤ (i : Int) by omega), if_pos (show (i : Int) < (l.length : Int) by omega), show rd_T30 l (i : Int) = l[i] from by simp [rd_T30, List.getD_eq_getElem?_getD, List.getElem?_eq_getElem hlt], w64 (x := (i : Int) + 1) (by omega) (by omega)]) ?_
   refine Ev.bind (Encode_is l[i] hk) (Ev.bind_eq (Seal_go _ (by omega) (encM_bytes _ hk)) (Ev.ite_pos (by omega) ?_))
   rw [← frames_take l i hlt]
   exact next
 exact key l.length 0 (by omega)
def recR (b : List Int) : Nat → List SE1 → Int → List SE1 × Int
 | 0, acc, a => (acc, a)
 | m + 1, acc, a => if (openL b a big).2.2 = 0 then (match decO (openL b a big).1 with | some e => if e.f0 = ((acc.length + 1 : Nat) : Int) then recR b m (acc ++ [e]) (openL b a big).2.1 else (acc, a) | none => (acc, a)) else (acc, a)
theorem openL_next {b : List Int} {at_ m : Int} (h : (openL b at_ m).2.2 = 0) : 0 ≤ at_ ∧ ∃ nx : Nat, (openL b at_ m).2.1 = (nx : Int) ∧ at_ < (nx : Int) ∧ nx ≤ b.length := by
 unfold openL at h ⊢
 by_cases h0 : (get7 b at_).2.2 = 0
 ·obtain ⟨g0, g1, p, _, g9, g2, g3, g4, g5, g6⟩ := get7_ok h0
  rw [g2] at h ⊢
  simp only [if_true] at h ⊢
  by_cases h1 : val7 p > m
  ·simp only [if_pos h1] at h; cases h
  ·simp only [if_neg h1] at h ⊢
   obtain ⟨n, hn⟩ := Int.eq_ofNat_of_zero_le g4
   obtain ⟨f, hf⟩ := Int.eq_ofNat_of_zero_le (show 0 ≤ at_ + (p.length : Int) by omega)
   rw [hn, hf] at h ⊢
   simp only [Int.toNat_natCast] at h ⊢
   by_cases h2 : f + n + 4 > b.length
   ·rw [openB_out h2] at h; cases h
   ·rw [openB_in (by omega)] at h ⊢
    split at h
    ·rename_i h3
     rw [if_pos h3]
     exact ⟨g0, f + n + 4, rfl, by omega, by omega⟩
    ·cases h
 ·simp only [if_neg h0] at h
  exact absurd h h0
theorem openL_data (b : List Int) (a m : Int) (hu : ∀ x ∈ b, 0 ≤ x ∧ x < 256) : (openL b a m).1.length ≤ b.length ∧ ∀ x ∈ (openL b a m).1, 0 ≤ x ∧ x < 256 := by
 have hB : ∀ p f n : Nat, (openB b p f n).1.length ≤ b.length ∧ ∀ x ∈ (openB b p f n).1, 0 ≤ x ∧ x < 256 := by
  intro p f n
  unfold openB
  split
  ·exact ⟨by simp, fun x hx => absurd hx (by simp)⟩
  ·split
   ·exact ⟨by simp only [List.length_drop, List.length_take]; omega, cut_range hu _ _⟩
   ·exact ⟨by simp, fun x hx => absurd hx (by simp)⟩
 unfold openL
 dsimp only
 split
 ·split
  ·exact ⟨by simp, fun x hx => absurd hx (by simp)⟩
  ·exact hB _ _ _
 ·exact ⟨by simp, fun x hx => absurd hx (by simp)⟩
theorem Recover_is (b : List Int) (hb : b.length ≤ 1466015503000) (hu : ∀ x ∈ b, 0 ≤ x ∧ x < 256) : Ev (fun k => manifest_Recover.f k b) (recR b (b.length + 1) [] 0) := by
 have key : ∀ (m : Nat) (acc : List SE1) (a : Nat), a ≤ b.length → b.length < a + m → acc.length ≤ a → Ev (fun k => manifest_Recover.l0 k b acc (a : Int)) (recR b m acc (a : Int)) := by
  intro m
  induction m with
  | zero => intro acc a h1 h2; omega
  | succ m ih =>
   intro acc a h1 h2 h3
   rw [recR]
   refine Ev.step (fun k => by rw [manifest_Recover.l0]) ?_
   refine Ev.bind (Open_go b (a : Int) big (by omega) hu) ?_
   by_cases c : (openL b (a : Int) big).2.2 = 0
   ·rw [if_pos c]
    refine Ev.ite_pos c ?_
    obtain ⟨_, nx, e1, e2, e3⟩ := openL_next c
    obtain ⟨d1, d2⟩ := openL_data b (a : Int) big hu
    refine Ev.bind (Decode_is _ (by omega) d2) ?_
    cases hd : decO (openL b (a : Int) big).1 with
    | none => exact Ev.ite_neg (show ¬ (3 : Int) = 0 by decide) (Ev.now _)
    | some e =>
     refine Ev.ite_pos rfl ?_
     rw [e1]
     dsimp only
     refine Ev.congr (fun k => by rw [show wrap64 ((acc.length : Int) + 1) = ((acc.length + 1 : Nat) : Int) from (w64 (by omega) (by omega)).trans (by omega)]) ?_
     by_cases c2 : e.f0 = ((acc.length + 1 : Nat) : Int)
     ·rw [if_pos c2]
      refine Ev.ite_pos c2 (Ev.ite_pos (by omega) ?_)
      exact ih (acc ++ [e]) nx e3 (by omega) (by rw [List.length_append, List.length_singleton]; omega)
     ·rw [if_neg c2]
      exact Ev.ite_neg c2 (Ev.now _)
   ·rw [if_neg c]
    exact Ev.ite_neg c (Ev.now _)
 exact key (b.length + 1) [] 0 (by omega) (by omega) (by simp)
theorem sealL_len (c : List Int) : (sealL c).length = (enc7 10 (c.length : Int)).length + c.length + 4 := by
 simp only [sealL, four4, List.length_append, List.length_cons, List.length_nil]

theorem rwrite_copy (l : List SE1) (s f : List Int) (i : Nat) (r : List Int) (hs : s.length + f.length < 140737488355328) (next : Ev (fun k => r33_Write.l0 k l (s ++ f) (wrap64 ((i : Int) + 1))) r) :
  ∀ d (j : Nat), j + d = f.length → Ev (fun k => r33_Write.l1 k l (s ++ f.take j) (i : Int) f (j : Int)) r := by
 intro d
 induction d with
 | zero =>
  intro j hj
  rw [List.take_of_length_le (by omega)]
  exact Ev.step (fun k => by rw [r33_Write.l1, if_neg (by omega)]) next
 | succ d ih =>
  intro j hj
  refine Ev.step (fun k => ?_) (ih (j + 1) (by omega))
  rw [r33_Write.l1, if_pos (show (j : Int) < (f.length : Int) by omega), if_pos (show (0 : Int) ≤ (j : Int) by omega), if_pos (by rw [List.length_append, List.length_take]; omega), rd_nat f j (by omega), List.append_assoc, take_snoc f j (by omega), w64 (by omega) (by omega)]
  rfl
theorem rWrite_is (l : List SE1) (h : ∀ e ∈ l, okE e) (hn : l.length ≤ 9223372036854775000) (hs : (frames l).length < 140737488355328) : Ev (fun k => r33_Write.f k l) (frames l) := by
 have key : ∀ d (i : Nat), i + d = l.length → Ev (fun k => r33_Write.l0 k l (frames (l.take i)) (i : Int)) (frames l) := by
  intro d
  induction d with
  | zero =>
   intro i hi
   rw [List.take_of_length_le (by omega)]
   refine Ev.step (f := fun _ => some (frames l)) (fun k => ?_) (Ev.now _)
   rw [r33_Write.l0, if_neg (by omega)]
  | succ d ih =>
   intro i hi
   have hlt : i < l.length := by omega
   have next := ih (i + 1) (by omega)
   have hk := h _ (List.getElem_mem hlt)
   have hle := frames_le l (i + 1)
   rw [frames_take l i hlt] at hle next
   rw [List.length_append] at hle
   have hel := encM_len l[i]
   have := hk.2.2.2.2.2.2
   refine Ev.step (fun k => by rw [r33_Write.l0, if_pos (show (i : Int) < (l.length : Int) by omega), if_pos (show (0 : Int) ≤ (i : Int) by omega), show rd_T30 l (i : Int) = l[i] from by simp [rd_T30, List.getD_eq_getElem?_getD, List.getElem?_eq_getElem hlt]]) ?_
   refine Ev.bind (rEncode_is l[i] hk) (Ev.bind (rSeal_go _ (by omega) (encM_bytes _ hk)) ?_)
   have := rwrite_copy l (frames (l.take i)) (sealL (encM l[i])) i (frames l) (by omega) (by rw [w64 (x := (i : Int) + 1) (by omega) (by omega)]; exact next) (sealL (encM l[i])).length 0 (by omega)
   rw [List.take_zero, List.append_nil] at this
   exact this
 exact key l.length 0 (by omega)
theorem openL_len (b : List Int) (a : Int) (hb : b.length ≤ 9223372036854775000) : ((openL b a big).2.2 = 0 → openL b a (b.length : Int) = openL b a big) ∧ ((openL b a big).2.2 ≠ 0 → (openL b a (b.length : Int)).2.2 ≠ 0) := by
 by_cases c : (get7 b a).2.2 = 0
 ·have hg := get7_next c
  have e1 : openL b a big = openB b a.toNat (get7 b a).2.1.toNat (get7 b a).1.toNat := by
   unfold openL
   simp only [if_pos c, if_neg (show ¬ (get7 b a).1 > big by unfold big; omega)]
  by_cases h : (get7 b a).1 > (b.length : Int)
  ·have e2 : openL b a (b.length : Int) = ([], 0, 4) := by
    unfold openL
    simp only [if_pos c, if_pos h]
   rw [e2]
   refine ⟨fun hz => ?_, fun _ => by decide⟩
   rw [e1, openB_out (by omega)] at hz
   exact absurd hz (by decide)
  ·have e2 : openL b a (b.length : Int) = openL b a big := by
    rw [e1]
    unfold openL
    simp only [if_pos c, if_neg h]
   rw [e2]
   exact ⟨fun _ => rfl, fun h => h⟩
 ·have e2 : openL b a (b.length : Int) = openL b a big := by
   unfold openL
   simp only [if_neg c]
  rw [e2]
  exact ⟨fun _ => rfl, fun h => h⟩
theorem rRecover_is (b : List Int) (hb : b.length ≤ 1466015503000) (hu : ∀ x ∈ b, 0 ≤ x ∧ x < 256) : Ev (fun k => r33_Recover.f k b) (recR b (b.length + 1) [] 0) := by
 have key : ∀ (m : Nat) (acc : List SE1) (a : Nat), a ≤ b.length → b.length < a + m → acc.length ≤ a → Ev (fun k => r33_Recover.l0 k b acc (a : Int)) (recR b m acc (a : Int)) := by
  intro m
  induction m with
  | zero => intro acc a h1 h2; omega
  | succ m ih =>
   intro acc a h1 h2 h3
   have hl := openL_len b (a : Int) (by omega)
   rw [recR]
   refine Ev.step (fun k => by rw [r33_Recover.l0]) ?_
   refine Ev.bind (rOpen_go b (a : Int) (b.length : Int) (by omega) hu) ?_
   by_cases c : (openL b (a : Int) big).2.2 = 0
   ·rw [if_pos c, hl.1 c]
    refine Ev.ite_pos c ?_
    obtain ⟨_, nx, e1, e2, e3⟩ := openL_next c
    obtain ⟨d1, d2⟩ := openL_data b (a : Int) big hu
    refine Ev.bind (rDecode_is _ (by omega) d2) ?_
    cases hd : decO (openL b (a : Int) big).1 with
    | none => exact Ev.ite_neg (show ¬ (3 : Int) = 0 by decide) (Ev.now _)
    | some e =>
     refine Ev.ite_pos rfl ?_
     rw [e1]
     dsimp only
     refine Ev.congr (fun k => by rw [show wrap64 ((acc.length : Int) + 1) = ((acc.length + 1 : Nat) : Int) from (w64 (by omega) (by omega)).trans (by omega)]) ?_
     by_cases c2 : e.f0 = ((acc.length + 1 : Nat) : Int)
     ·rw [if_pos c2]
      refine Ev.ite_pos c2 (Ev.ite_pos (by omega) ?_)
      exact ih (acc ++ [e]) nx e3 (by omega) (by rw [List.length_append, List.length_singleton]; omega)
     ·rw [if_neg c2]
      exact Ev.ite_neg c2 (Ev.now _)
   ·rw [if_neg c]
    exact Ev.ite_neg (hl.2 c) (Ev.now _)
 exact key (b.length + 1) [] 0 (by omega) (by omega) (by simp)

def andS (a b : List Int) : List Int := (uniq a).filter fun x => (uniq b).contains x
def minusS (a b : List Int) : List Int := (uniq a).filter fun x => !(uniq b).contains x
def orS (a b : List Int) : List Int := uniq (a ++ b)
theorem orS_srt (a b : List Int) : (orS a b).Pairwise (· < ·) := uniq_srt _
theorem mem_minusS (a b : List Int) (x : Int) : x ∈ minusS a b ↔ x ∈ a ∧ x ∉ b := by simp [minusS, mem_uniq]
theorem mem_orS (a b : List Int) (x : Int) : x ∈ orS a b ↔ x ∈ a ∨ x ∈ b := by simp [orS, mem_uniq]
theorem minusS_len (a b : List Int) : (minusS a b).length ≤ a.length := Nat.le_trans (List.length_filter_le _ _) (uniq_len a)
theorem orS_len (a b : List Int) : (orS a b).length ≤ a.length + b.length := by have := uniq_len (a ++ b); simpa [orS] using this
theorem Minus_is (a b : List Int) (ha : a.length ≤ 100000000) (hb : b.length ≤ 100000000) : posting_Minus.f a b = some (minusS a b) := by
 rw [posting_Minus.f, if_pos (by omega), if_pos (by omega)]; rfl
theorem unique_is (a : List Int) (ha : a.length ≤ 900000000) : posting_unique_int.f a = some (uniq a) := by
 rw [posting_unique_int.f, if_pos (by omega)]
theorem Concat2 (a b : List Int) (ha : a.length ≤ 100000000) (hb : b.length ≤ 100000000) : Ev (fun k => slices_Concat_int_int.f k [a, b]) (a ++ b) := by
 refine ⟨6, fun k hk => ?_⟩
 obtain ⟨k, rfl⟩ : ∃ j, k = j + 6 := ⟨k - 6, by omega⟩
 show slices_Concat_int_int.f (k + 6) [a, b] = some (a ++ b)
 rw [slices_Concat_int_int.f]
 rw [slices_Concat_int_int.l0, if_pos (by simp), if_pos (by simp), if_pos (by simp), show rd_L3 [a, b] 0 = a from rfl, w64 (by omega) (by omega), if_neg (by omega), show wrap64 (0 + 1) = 1 from w64 (by omega) (by omega)]
 rw [slices_Concat_int_int.l0, if_pos (by simp), if_pos (by simp), if_pos (by simp), show rd_L3 [a, b] 1 = b from rfl, w64 (by omega) (by omega), if_neg (by omega), show wrap64 (1 + 1) = 2 from w64 (by omega) (by omega)]
 rw [slices_Concat_int_int.l0, if_neg (by simp), slices_Grow_int_int.f, if_pos (by omega), if_pos (by omega), Option.bind_some]
 rw [slices_Concat_int_int.l1, if_pos (by simp), if_pos (by simp), if_pos (by simp), show rd_L3 [a, b] 0 = a from rfl, if_pos (by simp; omega), show wrap64 (0 + 1) = 1 from w64 (by omega) (by omega)]
 rw [slices_Concat_int_int.l1, if_pos (by simp), if_pos (by simp), if_pos (by simp), show rd_L3 [a, b] 1 = b from rfl, if_pos (by simp; omega), show wrap64 (1 + 1) = 2 from w64 (by omega) (by omega)]
 rw [slices_Concat_int_int.l1, if_neg (by simp)]
 simp
theorem Or_is (a b : List Int) (ha : a.length ≤ 100000000) (hb : b.length ≤ 100000000) : Ev (fun k => posting_Or.f k a b) (orS a b) := by
 refine Ev.congr (fun k => rfl) (Ev.bind (Concat2 a b ha hb) (Ev.bind_eq (unique_is (a ++ b) (by simp; omega)) ?_))
 exact Ev.now _
def okV (lo : Int) : List Int → Bool
 | [] => true
 | x :: l => decide (0 ≤ x) && decide (x ≤ 9999) && decide (lo < x) && okV x l
def prevV (l : List Int) (i : Nat) : Int := if i = 0 then -1 else l.getD (i - 1) 0
theorem prevV_succ (l : List Int) (i : Nat) (h : i < l.length) : prevV l (i + 1) = l[i] := by
 simp [prevV, List.getD_eq_getElem?_getD, List.getElem?_eq_getElem h]
theorem Valid_is (l : List Int) (hl : l.length ≤ 9223372036854775000) : Ev (fun k => posting_Valid.f k l) (okV (-1) l) := by
 have key : ∀ d (i : Nat), i + d = l.length → Ev (fun k => posting_Valid.l0 k l l (l.length : Int) (i : Int)) (okV (prevV l i) (l.drop i)) := by
  intro d
  induction d with
  | zero =>
   intro i hi
   rw [List.drop_of_length_le (by omega)]
   refine Ev.step (f := fun _ => some true) (fun k => ?_) (Ev.now _)
   rw [posting_Valid.l0, if_neg (show ¬ (i : Int) < (l.length : Int) by omega)]
  | succ d ih =>
   intro i hi
   have hlt : i < l.length := by omega
   have hih := ih (i + 1) (by omega)
   rw [prevV_succ l i hlt] at hih
   rw [drop_cons l i hlt, okV]
   have hd : ∀ k, posting_Valid.l0 (k + 1) l l (l.length : Int) (i : Int) = if l[i] < 0 then some false else if l[i] > 9999 then some false else if (i : Int) > 0 then (if 0 ≤ (wrap64 ((i : Int) - 1)) then (if (wrap64 ((i : Int) - 1)) < (l.length : Int) then (if l[i] ≤ (rd l (wrap64 ((i : Int) - 1))) then (some false) else (posting_Valid.l0 k l l (l.length : Int) (((i + 1 : Nat) : Int)))) else (none)) else (none)) else (posting_Valid.l0 k l l (l.length : Int) ((i + 1 : Nat) : Int)) := by
    intro k
    rw [posting_Valid.l0, if_pos (show (i : Int) < (l.length : Int) by omega), if_pos (show (0 : Int) ≤ (i : Int) by omega), if_pos (show (i : Int) < (l.length : Int) by omega), rd_nat l i hlt, w64 (x := (i : Int) + 1) (by omega) (by omega)]
    rfl
   by_cases h0 : l[i] < 0
   ·rw [show decide (0 ≤ l[i]) = false from by simp; omega]
    exact Ev.step (f := fun _ => some false) (fun k => by rw [hd, if_pos h0]) (Ev.now _)
   ·rw [show decide (0 ≤ l[i]) = true from by simp; omega]
    by_cases h9 : l[i] > 9999
    ·rw [show decide (l[i] ≤ 9999) = false from by simp; omega]
     exact Ev.step (f := fun _ => some false) (fun k => by rw [hd, if_neg h0, if_pos h9]) (Ev.now _)
    ·rw [show decide (l[i] ≤ 9999) = true from by simp; omega]
     by_cases hi0 : i = 0
     ·rw [show decide (prevV l i < l[i]) = true from by subst hi0; simp [prevV]; omega]
      exact Ev.step (fun k => by rw [hd, if_neg h0, if_neg h9, if_neg (by omega)]) hih
     ·have hp : prevV l i = l[i - 1]'(by omega) := by
       have := prevV_succ l (i - 1) (by omega)
       rwa [show i - 1 + 1 = i from by omega] at this
      have e1 : wrap64 ((i : Int) - 1) = ((i - 1 : Nat) : Int) := by rw [w64 (by omega) (by omega)]; omega
      rw [hp]
      by_cases hle : l[i] ≤ l[i - 1]'(by omega)
      ·rw [show decide (l[i - 1]'(by omega) < l[i]) = false from by simp; omega]
       exact Ev.step (f := fun _ => some false) (fun k => by rw [hd, if_neg h0, if_neg h9, if_pos (by omega), e1, if_pos (by omega), if_pos (by omega), rd_nat l (i - 1) (by omega), if_pos hle]) (Ev.now _)
      ·rw [show decide (l[i - 1]'(by omega) < l[i]) = true from by simp; omega]
       exact Ev.step (fun k => by rw [hd, if_neg h0, if_neg h9, if_pos (by omega), e1, if_pos (by omega), if_pos (by omega), rd_nat l (i - 1) (by omega), if_neg hle]) hih
 exact key l.length 0 (by omega)

abbrev SE := S30
abbrev ST := List Int × List Int × Int
theorem rdE_nat (l : List SE) (i : Nat) (h : i < l.length) : rd_T30 l (i : Int) = l[i] := by
 simp [rd_T30, List.getD_eq_getElem?_getD, List.getElem?_eq_getElem h]
theorem w1 (i : Nat) (h : i ≤ 9223372036854775000) : wrap64 ((i : Int) + 1) = ((i + 1 : Nat) : Int) := by rw [w64 (by omega) (by omega)]; omega
def afterM (s : ST) (e : SE) : ST :=
 if e.f1 = 1 then (orS s.1 [e.f2], s.2.1, mx s.2.2 e.f2) else if e.f1 = 2 then (s.1, orS s.2.1 e.f3, mx s.2.2 e.f2) else if e.f1 = 3 then (orS (minusS s.1 e.f4) [e.f2], [], mx s.2.2 e.f2) else (s.1, s.2.1, mx s.2.2 e.f2)
def runM (l : List SE) : ST := l.foldl afterM ([], [], 0)
def fit (n : Nat) (e : SE) : Prop := e.f3.length ≤ n ∧ e.f4.length ≤ n
theorem after_is (s : ST) (e : SE) (h1 : s.1.length ≤ 10000000) (h2 : s.2.1.length ≤ 10000000) (he : fit 1000000 e) : Ev (fun k => manifest_state_after.f k s.1 s.2.1 s.2.2 e.f0 e.f1 e.f2 e.f3 e.f4 e.f5) (afterM s e) := by
 unfold afterM
 refine Ev.congr (fun k => by rw [manifest_state_after.f]) ?_
 by_cases c1 : e.f1 = 1
 ·rw [if_pos c1]
  exact Ev.ite_pos c1 (Ev.bind (Or_is _ _ (by omega) (by simp)) (Ev.now _))
 rw [if_neg c1]
 refine Ev.ite_neg c1 ?_
 by_cases c2 : e.f1 = 2
 ·rw [if_pos c2]
  exact Ev.ite_pos c2 (Ev.bind (Or_is _ _ (by omega) (by have := he.1; omega)) (Ev.now _))
 rw [if_neg c2]
 refine Ev.ite_neg c2 ?_
 by_cases c3 : e.f1 = 3
 ·rw [if_pos c3]
  refine Ev.ite_pos c3 (Ev.bind_eq (Minus_is _ _ (by omega) (by have := he.2; omega)) (Ev.bind (Or_is _ _ (by have := minusS_len s.1 e.f4; omega) (by simp)) (Ev.now _)))
 rw [if_neg c3]
 exact Ev.ite_neg c3 (Ev.now _)
theorem after_len (s : ST) (e : SE) : (afterM s e).1.length ≤ s.1.length + 1 ∧ (afterM s e).2.1.length ≤ s.2.1.length + e.f3.length := by
 unfold afterM
 have h1 := orS_len s.1 [e.f2]
 have h2 := orS_len s.2.1 e.f3
 have h3 := orS_len (minusS s.1 e.f4) [e.f2]
 have h4 := minusS_len s.1 e.f4
 simp only [List.length_singleton] at h1 h3
 split
 ·exact ⟨h1, Nat.le_add_right _ _⟩
 ·split
  ·exact ⟨Nat.le_succ _, h2⟩
  ·split
   ·refine ⟨Nat.le_trans h3 (by omega), by simp⟩
   ·exact ⟨Nat.le_succ _, Nat.le_add_right _ _⟩
theorem runM_snoc (l : List SE) (i : Nat) (h : i < l.length) : runM (l.take (i + 1)) = afterM (runM (l.take i)) l[i] := by
 rw [← take_snoc l i h, runM, List.foldl_append]; rfl
theorem runM_len (l : List SE) (n : Nat) (hf : ∀ e ∈ l, fit n e) : (runM l).1.length ≤ l.length ∧ (runM l).2.1.length ≤ l.length * n := by
 have : ∀ (l : List SE) (s : ST), (∀ e ∈ l, fit n e) → (l.foldl afterM s).1.length ≤ s.1.length + l.length ∧ (l.foldl afterM s).2.1.length ≤ s.2.1.length + l.length * n := by
  intro l
  induction l with
  | nil => exact fun s _ => by simp
  | cons e l ih =>
   intro s h
   have h1 := ih (afterM s e) (fun x hx => h x (List.mem_cons_of_mem _ hx))
   have h2 := after_len s e
   have h3 := (h e List.mem_cons_self).1
   have h4 : (e :: l).length * n = l.length * n + n := by rw [List.length_cons, Nat.succ_mul]
   rw [h4]
   refine ⟨Nat.le_trans h1.1 (by rw [List.length_cons]; omega), Nat.le_trans h1.2 (by omega)⟩
 have := this l ([], [], 0) hf
 simp only [List.length_nil, Nat.zero_add] at this
 exact this
theorem run_is (l : List SE) (hl : l.length ≤ 1000) (hf : ∀ e ∈ l, fit 1000 e) : Ev (fun k => manifest_run.f k l) (runM l) := by
 have key : ∀ d (i : Nat), i + d = l.length → Ev (fun k => manifest_run.l0 k l (l.length : Int) (i : Int) (runM (l.take i)).1 (runM (l.take i)).2.1 (runM (l.take i)).2.2) (runM l) := by
  intro d
  induction d with
  | zero =>
   intro i hi
   rw [List.take_of_length_le (by omega)]
   refine Ev.step (f := fun _ => some (runM l)) (fun k => ?_) (Ev.now _)
   rw [manifest_run.l0, if_neg (by omega)]
  | succ d ih =>
   intro i hi
   have hlt : i < l.length := by omega
   have hb := runM_len (l.take i) 1000 (fun e he => hf e (List.mem_of_mem_take he))
   rw [List.length_take] at hb
   have hn : Nat.min i l.length ≤ 1000 := Nat.le_trans (Nat.min_le_right _ _) hl
   have hm : Nat.min i l.length * 1000 ≤ 1000000 := by have := Nat.mul_le_mul_right 1000 hn; omega
   have hg := hf l[i] (List.getElem_mem _)
   refine Ev.step (fun k => by rw [manifest_run.l0, if_pos (show (i : Int) < (l.length : Int) by omega), if_pos (show (0 : Int) ≤ (i : Int) by omega), if_pos (show (i : Int) < (l.length : Int) by omega), rdE_nat l i hlt, w1 i (by omega)]) ?_
   refine Ev.bind (after_is (runM (l.take i)) l[i] (Nat.le_trans hb.1 (Nat.le_trans hn (by omega))) (Nat.le_trans hb.2 (Nat.le_trans hm (by omega))) ⟨by have := hg.1; omega, by have := hg.2; omega⟩) ?_
   have := ih (i + 1) (by omega)
   rw [runM_snoc l i hlt] at this
   exact this
 exact key l.length 0 (by omega)
theorem Live_is (l : List SE) (hl : l.length ≤ 1000) (hf : ∀ e ∈ l, fit 1000 e) : Ev (fun k => manifest_Live.f k l) (runM l).1 := Ev.bind (run_is l hl hf) (Ev.now _)
theorem Dead_is (l : List SE) (hl : l.length ≤ 1000) (hf : ∀ e ∈ l, fit 1000 e) : Ev (fun k => manifest_Dead.f k l) (runM l).2.1 := Ev.bind (run_is l hl hf) (Ev.now _)

theorem SameI_self (l : List Int) (hl : l.length ≤ 9223372036854775000) : Ev (fun k => r33_SameInts.f k l l) true := by
 have key : ∀ d (i : Nat), i + d = l.length → Ev (fun k => r33_SameInts.l0 k l l (i : Int)) true := by
  intro d
  induction d with
  | zero =>
   intro i hi
   refine Ev.step (f := fun _ => some true) (fun k => ?_) (Ev.now _)
   rw [r33_SameInts.l0, if_neg (show ¬ (i : Int) < (l.length : Int) by omega)]
  | succ d ih =>
   intro i hi
   refine Ev.step (fun k => ?_) (ih (i + 1) (by omega))
   rw [r33_SameInts.l0, if_pos (show (i : Int) < (l.length : Int) by omega), if_pos (show (0 : Int) ≤ (i : Int) by omega), if_pos (show (i : Int) < (l.length : Int) by omega), if_pos rfl, w1 i (by omega)]
 exact Ev.ite_pos rfl (key l.length 0 (by omega))
theorem Same_self (e : SE) (h3 : e.f3.length ≤ 9223372036854775000) (h4 : e.f4.length ≤ 9223372036854775000) (h5 : e.f5.length ≤ 9223372036854775000) : Ev (fun k => r33_Same.f k e.f0 e.f1 e.f2 e.f3 e.f4 e.f5 e.f0 e.f1 e.f2 e.f3 e.f4 e.f5) true := by
 have key : ∀ d (i : Nat), i + d = e.f5.length → Ev (fun k => r33_Same.l0 k (i : Int) e.f0 e.f1 e.f2 e.f3 e.f4 e.f5 e.f0 e.f1 e.f2 e.f3 e.f4 e.f5) true := by
  intro d
  induction d with
  | zero =>
   intro i hi
   refine Ev.step (f := fun _ => some true) (fun k => ?_) (Ev.now _)
   rw [r33_Same.l0, if_neg (show ¬ (i : Int) < (e.f5.length : Int) by omega)]
  | succ d ih =>
   intro i hi
   refine Ev.step (fun k => ?_) (ih (i + 1) (by omega))
   rw [r33_Same.l0, if_pos (show (i : Int) < (e.f5.length : Int) by omega), if_pos (show (0 : Int) ≤ (i : Int) by omega), if_pos (show (i : Int) < (e.f5.length : Int) by omega), if_pos rfl, w1 i (by omega)]
 refine Ev.ite_pos rfl (Ev.ite_pos rfl (Ev.ite_pos rfl (Ev.bind (SameI_self e.f3 h3) (Ev.ite_pos rfl (Ev.bind (SameI_self e.f4 h4) (Ev.ite_pos rfl ?_))))))
 exact Ev.step (fun k => by rw [bne_self_eq_false, r33_Same.j0, if_neg (by decide)]; rfl) (key e.f5.length 0 (by omega))
theorem SameAll_self (l : List SE) (hl : l.length ≤ 9223372036854775000) (h : ∀ e ∈ l, e.f3.length ≤ 9223372036854775000 ∧ e.f4.length ≤ 9223372036854775000 ∧ e.f5.length ≤ 9223372036854775000) : Ev (fun k => r33_SameAll.f k l l) true := by
 have key : ∀ d (i : Nat), i + d = l.length → Ev (fun k => r33_SameAll.l0 k l l (i : Int)) true := by
  intro d
  induction d with
  | zero =>
   intro i hi
   refine Ev.step (f := fun _ => some true) (fun k => ?_) (Ev.now _)
   rw [r33_SameAll.l0, if_neg (show ¬ (i : Int) < (l.length : Int) by omega)]
  | succ d ih =>
   intro i hi
   have hlt : i < l.length := by omega
   have hg := h _ (List.getElem_mem hlt)
   refine Ev.step (fun k => by rw [r33_SameAll.l0, if_pos (show (i : Int) < (l.length : Int) by omega), if_pos (show (0 : Int) ≤ (i : Int) by omega), if_pos (show (i : Int) < (l.length : Int) by omega), rdE_nat l i hlt, w1 i (by omega)]) ?_
   exact Ev.bind (Same_self l[i] hg.1 hg.2.1 hg.2.2) (Ev.ite_pos rfl (ih (i + 1) (by omega)))
 exact Ev.ite_pos rfl (key l.length 0 (by omega))

def smallM (l : List SE) : Bool := decide (l.length ≤ 40) && l.all fun e => decide (e.f3.length ≤ 40) && (decide (e.f4.length ≤ 40) && decide (e.f5.length ≤ 40))
theorem small_is (l : List SE) : Ev (fun k => l33_small.f k l) (smallM l) := by
 unfold smallM
 by_cases h : (l.length : Int) > 40
 ·rw [decide_eq_false (show ¬ l.length ≤ 40 by omega)]
  exact Ev.ite_pos h (Ev.now _)
 ·rw [decide_eq_true (show l.length ≤ 40 by omega), Bool.true_and]
  refine Ev.ite_neg h ?_
  have key : ∀ d (i : Nat), i + d = l.length → Ev (fun k => l33_small.l0 k l (i : Int)) ((l.drop i).all fun e => decide (e.f3.length ≤ 40) && (decide (e.f4.length ≤ 40) && decide (e.f5.length ≤ 40))) := by
   intro d
   induction d with
   | zero =>
    intro i hi
    rw [List.drop_of_length_le (by omega)]
    refine Ev.step (f := fun _ => some true) (fun k => ?_) (Ev.now _)
    rw [l33_small.l0, if_neg (by omega)]
   | succ d ih =>
    intro i hi
    have hlt : i < l.length := by omega
    rw [drop_cons l i hlt, List.all_cons]
    refine Ev.step (fun k => by rw [l33_small.l0, if_pos (show (i : Int) < (l.length : Int) by omega), if_pos (show (0 : Int) ≤ (i : Int) by omega), rdE_nat l i hlt, w1 i (by omega)]) ?_
    by_cases c3 : ((l[i].f3).length : Int) > 40
    ·rw [decide_eq_false (show ¬ l[i].f3.length ≤ 40 by omega)]
     exact Ev.ite_pos c3 (Ev.now _)
    rw [decide_eq_true (show l[i].f3.length ≤ 40 by omega)]
    refine Ev.ite_neg c3 ?_
    by_cases c4 : ((l[i].f4).length : Int) > 40
    ·rw [decide_eq_false (show ¬ l[i].f4.length ≤ 40 by omega)]
     exact Ev.ite_pos c4 (Ev.now _)
    rw [decide_eq_true (show l[i].f4.length ≤ 40 by omega)]
    refine Ev.ite_neg c4 ?_
    by_cases c5 : ((l[i].f5).length : Int) > 40
    ·rw [decide_eq_false (show ¬ l[i].f5.length ≤ 40 by omega)]
     exact Ev.ite_pos c5 (Ev.now _)
    rw [decide_eq_true (show l[i].f5.length ≤ 40 by omega)]
    exact Ev.ite_neg c5 (ih (i + 1) (by omega))
  have := key l.length 0 (by omega)
  rw [List.drop_zero] at this
  exact this
theorem small_all {l : List SE} (h : smallM l = true) : l.length ≤ 40 ∧ ∀ e ∈ l, e.f3.length ≤ 40 ∧ e.f4.length ≤ 40 ∧ e.f5.length ≤ 40 := by
 rw [smallM, Bool.and_eq_true, decide_eq_true_iff, List.all_eq_true] at h
 refine ⟨h.1, fun e he => ?_⟩
 have h2 := h.2 e he
 rw [Bool.and_eq_true, Bool.and_eq_true, decide_eq_true_iff, decide_eq_true_iff, decide_eq_true_iff] at h2
 exact h2

def segE (e : SE) : Bool := decide (e.f1 = 1) || e.f1 == 3
def docE (e : SE) : Bool := decide (e.f1 = 2) || e.f1 == 4
def fieldsM (br : List ByteArray → Bool) (e : SE) : Bool :=
 if (decide (e.f1 < 1) || decide (e.f1 > 4)) = true then false
 else if ((!segE e && (e.f2 != 0)) || (!docE e && decide ((e.f3.length : Int) > 0))) = true then false
 else if ((!decide (e.f1 = 3) && decide ((e.f4.length : Int) > 0)) || (!decide (e.f1 = 4) && decide ((e.f5.length : Int) > 0))) = true then false
 else if (segE e && (decide (e.f2 < 1) || decide (e.f2 > 9999))) = true then false
 else if okV (-1) e.f3 = true then (if okV (-1) e.f4 = true then (if e.f1 = 4 then (if (e.f3.length : Int) < 2 then br e.f5 else false) else true) else false) else false
theorem fields_is (br : List ByteArray → Bool) (e : SE) (h3 : e.f3.length ≤ 1000000) (h4 : e.f4.length ≤ 1000000) (hb : e.f1 = 4 → Ev (fun k => manifest_branches.f k e.f5) (br e.f5)) : Ev (fun k => manifest_fields.f k e.f0 e.f1 e.f2 e.f3 e.f4 e.f5) (fieldsM br e) := by
 unfold fieldsM
 refine Ev.congr (f := fun k => manifest_fields.j0 k (segE e) e.f0 e.f1 e.f2 e.f3 e.f4 e.f5) (fun k => by rw [manifest_fields.f, segE]; by_cases h : e.f1 = 1 <;> simp [h]) ?_
 refine Ev.step (f := fun k => manifest_fields.j1 k (segE e) (docE e) e.f0 e.f1 e.f2 e.f3 e.f4 e.f5) (fun k => by rw [manifest_fields.j0, docE]; by_cases h : e.f1 = 2 <;> simp [h]) ?_
 refine Ev.step (f := fun k => manifest_fields.j2 k (segE e) (docE e) (decide (e.f1 < 1) || decide (e.f1 > 4)) e.f0 e.f1 e.f2 e.f3 e.f4 e.f5) (fun k => by rw [manifest_fields.j1]; by_cases h : e.f1 < 1 <;> simp [h]) ?_
 by_cases c1 : (decide (e.f1 < 1) || decide (e.f1 > 4)) = true
 ·rw [if_pos c1]
  exact Ev.step (f := fun k => some false) (fun k => by rw [manifest_fields.j2, if_pos c1]) (Ev.now _)
 rw [if_neg c1]
 refine Ev.step (f := fun k => manifest_fields.j3 k (segE e) (docE e) (!segE e && (e.f2 != 0)) e.f0 e.f1 e.f2 e.f3 e.f4 e.f5) (fun k => by rw [manifest_fields.j2, if_neg c1]; cases segE e <;> simp) ?_
 refine Ev.step (f := fun k => manifest_fields.j4 k (segE e) ((!segE e && (e.f2 != 0)) || (!docE e && decide ((e.f3.length : Int) > 0))) e.f0 e.f1 e.f2 e.f3 e.f4 e.f5) (fun k => by rw [manifest_fields.j3]; cases (!segE e && (e.f2 != 0)) <;> cases docE e <;> simp) ?_
 by_cases c2 : ((!segE e && (e.f2 != 0)) || (!docE e && decide ((e.f3.length : Int) > 0))) = true
 ·rw [if_pos c2]
  exact Ev.step (f := fun k => some false) (fun k => by rw [manifest_fields.j4, if_pos c2]) (Ev.now _)
 rw [if_neg c2]
 refine Ev.step (f := fun k => manifest_fields.j5 k (segE e) (!decide (e.f1 = 3) && decide ((e.f4.length : Int) > 0)) e.f0 e.f1 e.f2 e.f3 e.f4 e.f5) (fun k => by rw [manifest_fields.j4, if_neg c2]; by_cases h : e.f1 = 3 <;> simp [h]) ?_
 refine Ev.step (f := fun k => manifest_fields.j6 k (segE e) ((!decide (e.f1 = 3) && decide ((e.f4.length : Int) > 0)) || (!decide (e.f1 = 4) && decide ((e.f5.length : Int) > 0))) e.f0 e.f1 e.f2 e.f3 e.f4 e.f5) (fun k => by rw [manifest_fields.j5]; cases (!decide (e.f1 = 3) && decide ((e.f4.length : Int) > 0)) <;> by_cases h : e.f1 = 4 <;> simp [h]) ?_
 by_cases c3 : ((!decide (e.f1 = 3) && decide ((e.f4.length : Int) > 0)) || (!decide (e.f1 = 4) && decide ((e.f5.length : Int) > 0))) = true
 ·rw [if_pos c3]
  exact Ev.step (f := fun k => some false) (fun k => by rw [manifest_fields.j6, if_pos c3]) (Ev.now _)
 rw [if_neg c3]
 refine Ev.step (f := fun k => manifest_fields.j7 k (segE e && (decide (e.f2 < 1) || decide (e.f2 > 9999))) e.f0 e.f1 e.f2 e.f3 e.f4 e.f5) (fun k => by rw [manifest_fields.j6, if_neg c3]; cases segE e <;> by_cases h : e.f2 < 1 <;> simp [h]) ?_
 by_cases c4 : (segE e && (decide (e.f2 < 1) || decide (e.f2 > 9999))) = true
 ·rw [if_pos c4]
  exact Ev.step (f := fun k => some false) (fun k => by rw [manifest_fields.j7, if_pos c4]) (Ev.now _)
 rw [if_neg c4]
 refine Ev.step (fun k => by rw [manifest_fields.j7, if_neg c4]) (Ev.bind (Valid_is e.f3 (by omega)) ?_)
 by_cases c5 : okV (-1) e.f3 = true
 ·rw [if_pos c5]
  refine Ev.ite_pos c5 (Ev.bind (Valid_is e.f4 (by omega)) ?_)
  by_cases c6 : okV (-1) e.f4 = true
  ·rw [if_pos c6]
   refine Ev.ite_pos c6 ?_
   by_cases c7 : e.f1 = 4
   ·rw [if_pos c7]
    refine Ev.ite_pos c7 ?_
    by_cases c8 : (e.f3.length : Int) < 2
    ·rw [if_pos c8]
     exact Ev.ite_pos c8 (Ev.bind (hb c7) (Ev.now _))
    ·rw [if_neg c8]
     exact Ev.ite_neg c8 (Ev.now _)
   ·rw [if_neg c7]
    exact Ev.ite_neg c7 (Ev.now _)
  ·rw [if_neg c6]
   exact Ev.ite_neg c6 (Ev.now _)
 ·rw [if_neg c5]
  exact Ev.ite_neg c5 (Ev.now _)
theorem Contains_is (l : List Int) (n : Int) (hl : l.length ≤ 9223372036854775000) : Ev (fun k => slices_Contains_int_int.f k l n) (decide (n ∈ l)) := by
 have key : ∀ d (i : Nat), i + d = l.length → ∃ r, Ev (fun k => slices_Index_int_int.l0 k l n (l.length : Int) (i : Int)) r ∧ (decide (r ≥ 0) = decide (n ∈ l.drop i)) := by
  intro d
  induction d with
  | zero =>
   intro i hi
   rw [List.drop_of_length_le (by omega)]
   refine ⟨-1, Ev.step (f := fun _ => some (-1)) (fun k => ?_) (Ev.now _), by simp⟩
   rw [slices_Index_int_int.l0, if_neg (show ¬ (i : Int) < (l.length : Int) by omega)]
  | succ d ih =>
   intro i hi
   have hlt : i < l.length := by omega
   rw [drop_cons l i hlt]
   by_cases h : l[i] = n
   ·refine ⟨(i : Int), Ev.step (f := fun _ => some (i : Int)) (fun k => ?_) (Ev.now _), ?_⟩
    ·rw [slices_Index_int_int.l0, if_pos (show (i : Int) < (l.length : Int) by omega), if_pos (show (0 : Int) ≤ (i : Int) by omega), if_pos (show (i : Int) < (l.length : Int) by omega), rd_nat l i hlt]
     first | rw [if_pos h] | rw [if_pos h.symm]
    ·rw [decide_eq_true (show (i : Int) ≥ 0 by omega), decide_eq_true (show n ∈ l[i] :: l.drop (i + 1) by rw [h]; exact List.mem_cons_self)]
   ·obtain ⟨r, h1, h2⟩ := ih (i + 1) (by omega)
    refine ⟨r, Ev.step (fun k => ?_) h1, ?_⟩
    ·rw [slices_Index_int_int.l0, if_pos (show (i : Int) < (l.length : Int) by omega), if_pos (show (0 : Int) ≤ (i : Int) by omega), if_pos (show (i : Int) < (l.length : Int) by omega), rd_nat l i hlt, w1 i (by omega)]
     first | rw [if_neg h] | rw [if_neg (fun e => h e.symm)]
    ·rw [h2]
     exact decide_eq_decide.2 (by rw [List.mem_cons]; exact ⟨.inr, fun h2 => h2.resolve_left (fun e => h e.symm)⟩)
 obtain ⟨r, h1, h2⟩ := key l.length 0 (by omega)
 rw [List.drop_zero] at h2
 rw [← h2]
 exact Ev.bind h1 (Ev.now _)
def checkM (br : List ByteArray → Bool) (s : ST) (i : Nat) (e : SE) : Int :=
 if e.f0 = ((i + 1 : Nat) : Int) then (if fieldsM br e = true then (if (segE e && decide (e.f2 ≤ s.2.2)) = true then 7 else if (e.f4.all fun n => decide (n ∈ s.1)) = true then
  (if (docE e && ((e.f3.length : Int) == 0)) = true then 1 else if (decide (e.f1 = 3) && ((e.f4.length : Int) == 0)) = true then 1 else 0) else 8) else 1) else 2
theorem check_is (br : List ByteArray → Bool) (s : ST) (i : Nat) (e : SE) (hi : i ≤ 1000000) (hs : s.1.length ≤ 1000000) (h3 : e.f3.length ≤ 1000000) (h4 : e.f4.length ≤ 1000000) (hb : e.f1 = 4 → Ev (fun k => manifest_branches.f k e.f5) (br e.f5)) :
  Ev (fun k => manifest_check.f k s.1 s.2.1 s.2.2 (i : Int) e.f0 e.f1 e.f2 e.f3 e.f4 e.f5) (checkM br s i e) := by
 unfold checkM
 refine Ev.congr (fun k => by rw [manifest_check.f, w1 i (by omega)]) ?_
 by_cases c0 : e.f0 = ((i + 1 : Nat) : Int)
 ·rw [if_pos c0]
  refine Ev.ite_pos c0 (Ev.bind (fields_is br e h3 h4 hb) ?_)
  by_cases c1 : fieldsM br e = true
  ·rw [if_pos c1]
   refine Ev.ite_pos c1 (Ev.congr (f := fun k => manifest_check.j0 k (segE e) s.1 s.2.1 s.2.2 e.f0 e.f1 e.f2 e.f3 e.f4 e.f5) (fun k => by rw [segE]; by_cases h : e.f1 = 1 <;> simp [h]) ?_)
   refine Ev.step (f := fun k => manifest_check.j1 k (segE e && decide (e.f2 ≤ s.2.2)) s.1 s.2.1 s.2.2 e.f0 e.f1 e.f2 e.f3 e.f4 e.f5) (fun k => by rw [manifest_check.j0]; cases segE e <;> simp) ?_
   by_cases c2 : (segE e && decide (e.f2 ≤ s.2.2)) = true
   ·rw [if_pos c2]
    exact Ev.step (f := fun k => some 7) (fun k => by rw [manifest_check.j1, if_pos c2]) (Ev.now _)
   rw [if_neg c2]
   refine Ev.step (fun k => by rw [manifest_check.j1, if_neg c2]) ?_
   have key : ∀ d (j : Nat), j + d = e.f4.length → Ev (fun k => manifest_check.l0 k e.f4 (e.f4.length : Int) (j : Int) s.1 s.2.1 s.2.2 e.f0 e.f1 e.f2 e.f3 e.f4 e.f5) (if ((e.f4.drop j).all fun n => decide (n ∈ s.1)) = true then (if (docE e && ((e.f3.length : Int) == 0)) = true then 1 else if (decide (e.f1 = 3) && ((e.f4.length : Int) == 0)) = true then 1 else 0) else 8) := by
    intro d
    induction d with
    | zero =>
     intro j hj
     rw [List.drop_of_length_le (by omega), List.all_nil, if_pos rfl]
     refine Ev.step (f := fun k => some (if (docE e && ((e.f3.length : Int) == 0)) = true then 1 else if (decide (e.f1 = 3) && ((e.f4.length : Int) == 0)) = true then 1 else 0)) (fun k => ?_) (Ev.now _)
     rw [manifest_check.l0, if_neg (by omega), docE]
     by_cases a2 : e.f1 = 2
     ·by_cases a3 : e.f3 = [] <;> simp [a2, a3]
     ·by_cases a4 : e.f1 = 4
      ·by_cases a3 : e.f3 = [] <;> simp [a4, a3]
      ·by_cases a5 : e.f1 = 3
       ·by_cases a6 : e.f4 = [] <;> simp [a5, a6]
       ·simp [a2, a4, a5]
    | succ d ih =>
     intro j hj
     have hlt : j < e.f4.length := by omega
     rw [drop_cons e.f4 j hlt, List.all_cons]
     refine Ev.step (fun k => by rw [manifest_check.l0, if_pos (show (j : Int) < (e.f4.length : Int) by omega), if_pos (show (0 : Int) ≤ (j : Int) by omega), if_pos (show (j : Int) < (e.f4.length : Int) by omega), rd_nat e.f4 j hlt, w1 j (by omega)]) (Ev.bind (Contains_is s.1 _ (by omega)) ?_)
     by_cases hm : e.f4[j] ∈ s.1
     ·rw [decide_eq_true hm, Bool.true_and]
      exact Ev.ite_pos rfl (ih (j + 1) (by omega))
     ·rw [decide_eq_false hm, Bool.false_and, if_neg (by decide)]
      exact Ev.ite_neg (by decide) (Ev.now _)
   have := key e.f4.length 0 (by omega)
   rw [List.drop_zero] at this
   exact this
  ·rw [if_neg c1]
   exact Ev.ite_neg c1 (Ev.now _)
 ·rw [if_neg c0]
  exact Ev.ite_neg c0 (Ev.now _)
def rightGo (br : List ByteArray → Bool) : ST → Nat → List SE → Int
 | _, _, [] => 0
 | s, i, e :: l => if checkM br s i e = 0 then rightGo br (afterM s e) (i + 1) l else checkM br s i e
def rightM (br : List ByteArray → Bool) (l : List SE) : Int := rightGo br ([], [], 0) 0 l
theorem Right_is (br : List ByteArray → Bool) (l : List SE) (hl : l.length ≤ 1000) (hf : ∀ e ∈ l, fit 1000 e) (hb : ∀ e ∈ l, e.f1 = 4 → Ev (fun k => manifest_branches.f k e.f5) (br e.f5)) : Ev (fun k => manifest_Right.f k l) (rightM br l) := by
 have key : ∀ d (i : Nat) (s : ST), i + d = l.length → s.1.length ≤ i → s.2.1.length ≤ i * 1000 → Ev (fun k => manifest_Right.l0 k l (l.length : Int) (i : Int) s.1 s.2.1 s.2.2) (rightGo br s i (l.drop i)) := by
  intro d
  induction d with
  | zero =>
   intro i s hi _ _
   rw [List.drop_of_length_le (by omega), rightGo]
   refine Ev.step (f := fun _ => some 0) (fun k => ?_) (Ev.now _)
   rw [manifest_Right.l0, if_neg (by omega)]
  | succ d ih =>
   intro i s hi h1 h2
   have hlt : i < l.length := by omega
   have hg := hf l[i] (List.getElem_mem _)
   rw [drop_cons l i hlt, rightGo]
   refine Ev.step (fun k => by rw [manifest_Right.l0, if_pos (show (i : Int) < (l.length : Int) by omega), if_pos (show (0 : Int) ≤ (i : Int) by omega), if_pos (show (i : Int) < (l.length : Int) by omega), rdE_nat l i hlt, w1 i (by omega)]) ?_
   refine Ev.bind (check_is br s i l[i] (by omega) (by omega) (by have := hg.1; omega) (by have := hg.2; omega) (hb _ (List.getElem_mem _))) ?_
   by_cases c : checkM br s i l[i] = 0
   ·rw [if_pos c]
    have hlen := after_len s l[i]
    refine Ev.ite_pos c (Ev.bind (after_is s l[i] (by omega) (by omega) ⟨by have := hg.1; omega, by have := hg.2; omega⟩) ?_)
    exact ih (i + 1) (afterM s l[i]) (by omega) (by omega) (by have := hg.1; omega)
   ·rw [if_neg c]
    exact Ev.ite_neg c (Ev.now _)
 have := key l.length 0 ([], [], 0) (by omega) (by simp) (by simp)
 rw [List.drop_zero] at this
 exact this

instance decSE : DecidableEq SE := fun a b => decidable_of_decidable_of_iff (p := a.f0 = b.f0 ∧ a.f1 = b.f1 ∧ a.f2 = b.f2 ∧ a.f3 = b.f3 ∧ a.f4 = b.f4 ∧ a.f5 = b.f5) (by cases a; cases b; simp)
instance decFit (n : Nat) (e : SE) : Decidable (fit n e) := inferInstanceAs (Decidable (_ ∧ _))
theorem orS_lit {a b c : List Int} (hc : c.Pairwise (· < ·)) (h : ∀ x, x ∈ c ↔ x ∈ a ∨ x ∈ b) : orS a b = c := srt_ext (orS_srt _ _) hc (fun x => by rw [mem_orS, h])
abbrev e1 : SE := ⟨1, 1, 1, [], [], []⟩
abbrev e2 : SE := ⟨2, 1, 2, [], [], []⟩
abbrev e3 : SE := ⟨3, 2, 0, [7, 9], [], []⟩
abbrev e4 : SE := ⟨4, 3, 3, [], [1, 2], []⟩
abbrev ex33 : List SE := [e1, e2, e3, e4]
theorem st1 : afterM ([], [], 0) e1 = ([1], [], 1) := by
 rw [afterM, if_pos rfl, orS_lit (c := [1]) (by decide) (fun x => by simp)]; rfl
theorem st2 : afterM ([1], [], 1) e2 = ([1, 2], [], 2) := by
 rw [afterM, if_pos rfl, orS_lit (c := [1, 2]) (by decide) (fun x => by simp)]; rfl
theorem st3 : afterM ([1, 2], [], 2) e3 = ([1, 2], [7, 9], 2) := by
 rw [afterM, if_neg (by decide), if_pos rfl, orS_lit (c := [7, 9]) (by decide) (fun x => by simp)]; rfl
theorem st4 : afterM ([1, 2], [7, 9], 2) e4 = ([3], [], 3) := by
 rw [afterM, if_neg (by decide), if_neg (by decide), if_pos rfl, orS_lit (c := [3]) (by decide) (fun x => by rw [mem_minusS]; simp; omega)]; rfl
theorem al_run3 : runM (ex33.take 3) = ([1, 2], [7, 9], 2) := by
 show afterM (afterM (afterM ([], [], 0) e1) e2) e3 = _
 rw [st1, st2, st3]
theorem al_run : runM ex33 = ([3], [], 3) := by
 show afterM (afterM (afterM (afterM ([], [], 0) e1) e2) e3) e4 = _
 rw [st1, st2, st3, st4]
def brT : List ByteArray → Bool := fun _ => true
theorem al_ck1 : checkM brT ([], [], 0) 0 e1 = 0 := by decide +kernel
theorem al_right0 : rightM brT ex33 = 0 := by
 rw [rightM, rightGo, if_pos al_ck1, st1, rightGo, if_pos (by decide +kernel), st2, rightGo, if_pos (by decide +kernel), st3, rightGo, if_pos (by decide +kernel), rightGo]
theorem al_right7 : rightM brT [e1, ⟨2, 1, 1, [], [], []⟩] = 7 := by
 rw [rightM, rightGo, if_pos al_ck1, st1, rightGo, if_neg (by decide +kernel)]; decide +kernel
theorem al_right8 : rightM brT [e1, ⟨2, 3, 2, [], [4], []⟩] = 8 := by
 rw [rightM, rightGo, if_pos al_ck1, st1, rightGo, if_neg (by decide +kernel)]; decide +kernel
theorem al_right1 : rightM brT [⟨1, 2, 0, [], [], []⟩] = 1 := by
 rw [rightM, rightGo, if_neg (by decide +kernel)]; decide +kernel
def wr33 : List Int := (manifest_Write.f 60 ex33).getD []
set_option maxRecDepth 100000 in
theorem al_write : Ev (fun k => manifest_Write.f k ex33) wr33 := Ev.of (fun k => manifest_Write.mono _ k) (k := 60) (by decide +kernel)
set_option maxRecDepth 100000 in
theorem al_rec : Ev (fun k => manifest_Recover.f k wr33) (ex33, (wr33.length : Int)) := Ev.of (fun k => manifest_Recover.mono _ k) (k := 60) (by decide +kernel)
set_option maxRecDepth 100000 in
theorem al_enc : Ev (fun k => manifest_Encode.f k 1 1 5 [] [] []) [1, 1, 5, 0, 0, 0] := Ev.of (fun k => manifest_Encode.mono _ _ _ _ _ _ k) (k := 30) (by decide +kernel)
set_option maxRecDepth 100000 in
theorem al_same : Ev (fun k => r33_SameAll.f k ex33 ex33) true := Ev.of (fun k => r33_SameAll.mono _ _ k) (k := 30) (by decide +kernel)
set_option maxRecDepth 100000 in
theorem al_ints (l : List Int) (h : r33_SameInts.f 30 l l = some true) : Ev (fun k => r33_SameInts.f k l l) true := Ev.of (fun k => r33_SameInts.mono _ _ k) h
theorem al_R (l : List SE) (r : Int) (hl : l.length ≤ 1000) (hf : ∀ e ∈ l, fit 1000 e) (hk : ∀ e ∈ l, e.f1 ≠ 4) (h : rightM brT l = r) : Ev (fun k => manifest_Right.f k l) r := h ▸ Right_is brT l hl hf (fun e he h4 => absurd h4 (hk e he))
set_option maxRecDepth 100000 in
theorem alive33 : Ev (fun k => l33_alive.f k) true := by
 have f3 : ∀ e ∈ ex33.take 3, fit 1000 e := by decide +kernel
 have f4 : ∀ e ∈ ex33, fit 1000 e := by decide +kernel
 have L3 := Live_is (ex33.take 3) (by decide) f3
 have D3 := Dead_is (ex33.take 3) (by decide) f3
 have L4 := Live_is ex33 (by decide) f4
 have D4 := Dead_is ex33 (by decide) f4
 rw [al_run3] at L3 D3
 rw [al_run] at L4 D4
 refine Ev.bind_eq (show l33_example.f = some ex33 from rfl) ?_
 refine Ev.bind (al_R ex33 0 (by decide) f4 (by decide) al_right0) (Ev.ite_pos rfl (Ev.ite_pos (by decide) (Ev.bind L3 ?_)))
 refine Ev.bind (al_ints [1, 2] (by decide +kernel)) (Ev.ite_pos rfl (Ev.bind D3 ?_))
 refine Ev.bind (al_ints [7, 9] (by decide +kernel)) (Ev.ite_pos rfl (Ev.bind L4 ?_))
 refine Ev.bind (al_ints [3] (by decide +kernel)) (Ev.ite_pos rfl (Ev.bind D4 ?_))
 refine Ev.ite_pos (by decide) ?_
 refine Ev.bind al_enc ?_
 refine Ev.ite_pos (by decide +kernel) ?_
 refine Ev.ite_pos (by decide) ?_
 refine Ev.bind (al_R [e1, ⟨2, 1, 1, [], [], []⟩] 7 (by decide) (by decide +kernel) (by decide) al_right7) ?_
 refine Ev.bind (al_R [e1, ⟨2, 3, 2, [], [4], []⟩] 8 (by decide) (by decide +kernel) (by decide) al_right8) ?_
 refine Ev.bind (al_R [⟨1, 2, 0, [], [], []⟩] 1 (by decide) (by decide +kernel) (by decide) al_right1) ?_
 refine Ev.bind al_write (Ev.bind al_rec (Ev.ite_pos rfl (Ev.ite_pos rfl (Ev.ite_pos rfl (Ev.bind al_same (Ev.ite_pos rfl (Ev.bind al_write (Ev.ite_pos rfl ?_))))))))
 exact Ev.congr (fun k => by rw [decide_eq_true (show (wr33.length : Int) > 0 by decide +kernel)]) (Ev.now _)

theorem strsB_bound (M : Nat) (l : List ByteArray) (h : ∀ s ∈ l, s.size ≤ M) : (strsB l).length ≤ l.length * (M + 10) := by
 induction l with
 | nil => simp [strsB]
 | cons s l ih =>
  have e1 : strsB (s :: l) = strB s ++ strsB l := by simp [strsB]
  have := ih (fun x hx => h x (List.mem_cons_of_mem _ hx))
  have hs := h s List.mem_cons_self
  have he := enc7_length 10 (s.size : Int)
  rw [e1, List.length_append, strB, List.length_append, bytesOf_len, List.length_cons, Nat.succ_mul]
  omega
theorem getLs_length (b : List Int) : ∀ (r : Nat) (more : Bool) (last a : Int) (acc : List Int), (getLs b r more last a acc).2.2 = 0 → (getLs b r more last a acc).1.length = acc.length + r
 | 0, _, _, a, acc, _ => by rw [getLs]; rfl
 | r + 1, more, last, a, acc, h => by
  rw [getLs] at h ⊢
  by_cases c : (get7 b a).2.2 = 0
  ·rw [if_pos c] at h ⊢
   by_cases c1 : more = true ∧ (get7 b a).1 = 0
   ·rw [if_pos c1] at h
    exact absurd h (by simp)
   rw [if_neg c1] at h ⊢
   by_cases c2 : (get7 b a).1 > 4611686018427387904 - last
   ·rw [if_pos c2] at h
    exact absurd h (by simp)
   rw [if_neg c2] at h ⊢
   rw [getLs_length b r true _ _ _ h, List.length_append, List.length_singleton]
   omega
  ·rw [if_neg c] at h
   exact absurd h c
theorem lstO_len {b : List Int} {a : Int} {p : List Int × Int} (h : lstO b a = some p) (ha : 0 ≤ a) : p.1.length ≤ b.length := by
 unfold lstO at h
 by_cases c : (getL b a big).2.2 = 0
 ·rw [if_pos c] at h
  obtain rfl := Option.some.inj h
  obtain ⟨_, _, g0, g1, g2⟩ := getL_next c ha
  dsimp only
  unfold getL at c ⊢
  rw [if_pos g0, if_neg (by omega)] at c ⊢
  rw [getLs_length b _ _ _ _ _ c, List.length_nil]
  have := get7_next g0
  omega
 ·rw [if_neg c] at h
  exact absurd h (by simp)
theorem strsO_len (b : List Int) : ∀ (m : Nat) (n a : Int) (on : List ByteArray) (p : List ByteArray × Int), strsO b m n a on = some p → p.1.length ≤ on.length + m
 | 0, _, _, _, _, h => absurd h (by simp [strsO])
 | m + 1, n, a, on, p, h => by
  rw [strsO] at h
  by_cases c : 0 < n
  ·rw [if_pos c] at h
   by_cases c2 : (getS b a big).2.2 = 0
   ·rw [if_pos c2] at h
    have := strsO_len b m _ _ _ _ h
    rw [List.length_append, List.length_singleton] at this
    omega
   ·rw [if_neg c2] at h
    exact absurd h (by simp)
  ·rw [if_neg c] at h
   obtain rfl := Option.some.inj h
   dsimp only
   omega
theorem decO_len {b : List Int} {e : SE1} (h : decO b = some e) : e.f3.length ≤ b.length ∧ e.f4.length ≤ b.length ∧ e.f5.length ≤ b.length + 2 := by
 unfold decO at h
 obtain ⟨p1, h1, h⟩ := Option.bind_eq_some_iff.1 h
 obtain ⟨p2, h2, h⟩ := Option.bind_eq_some_iff.1 h
 obtain ⟨p3, h3, h⟩ := Option.bind_eq_some_iff.1 h
 obtain ⟨p4, h4, h⟩ := Option.bind_eq_some_iff.1 h
 obtain ⟨p5, h5, h⟩ := Option.bind_eq_some_iff.1 h
 obtain ⟨p6, h6, h⟩ := Option.bind_eq_some_iff.1 h
 obtain ⟨p7, h7, h⟩ := Option.bind_eq_some_iff.1 h
 have q1 := numO_next h1 (by omega)
 have q2 := numO_next h2 (by omega)
 have q3 := numO_next h3 (by omega)
 have q4 := lstO_next h4 (by omega)
 have n4 := lstO_len h4 (by omega)
 have n5 := lstO_len h5 (by omega)
 have n7 := strsO_len b _ _ _ _ _ h7
 by_cases c : p7.2 = (b.length : Int)
 ·rw [if_pos c] at h
  obtain rfl := Option.some.inj h
  refine ⟨n4, n5, ?_⟩
  simpa using n7
 ·rw [if_neg c] at h
  exact absurd h (by simp)
end Go.Proofs.YtmgliocboeifdaaGreatDoor.Q
