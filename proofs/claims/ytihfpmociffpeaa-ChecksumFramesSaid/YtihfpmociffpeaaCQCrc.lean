/- The checksum's register: a step of it is linear and one to one; what the program's and the document's functions answer. -/
import Derived.Test.YtihfpmociffpeaaQGen
import Derived.Test.YtihfpmociffpeaaCx1
import Derived.Test.YtihfpmociffpeaaCx3
namespace Go.Proofs.Ytihfpmociffpeaa.Q
open Go.RowKit Go.Proofs.YtihfpmociffpeaaW.PrintWords Go.Proofs.YtihfpmociffpeaaW.PrintLast Go.Proofs.YtihfpmociffpeaaW.PrintMore Go.Proofs.Ytihfpmociffpeaa.C
set_option linter.unusedVariables false
set_option linter.unusedSimpArgs false

def crcS (x : Nat) : Nat := x / 2 ^^^ (if x % 2 = 1 then 2197175160 else 0)
theorem crcS_xor (a b : Nat) : crcS (a ^^^ b) = crcS a ^^^ crcS b := by
  unfold crcS
  have h1 : (a ^^^ b) / 2 = a / 2 ^^^ b / 2 := by simpa using Nat.xor_div_two_pow (a := a) (b := b) (n := 1)
  have h2 : (a ^^^ b) % 2 = (a % 2 ^^^ b % 2) := by simpa using Nat.xor_mod_two_pow (a := a) (b := b) (n := 1)
  rw [h1, h2]
  generalize a / 2 = u
  generalize b / 2 = v
  rcases Nat.mod_two_eq_zero_or_one a with ha | ha <;> rcases Nat.mod_two_eq_zero_or_one b with hb | hb <;> rw [ha, hb] <;> simp
  · ac_rfl
  · ac_rfl
  · rw [show (u ^^^ 2197175160 ^^^ (v ^^^ 2197175160)) = (u ^^^ v) ^^^ (2197175160 ^^^ 2197175160) by ac_rfl, Nat.xor_self, Nat.xor_zero]
theorem crcS_two (y : Nat) : crcS (2 * y) = y := by
  unfold crcS
  rw [if_neg (by omega), Nat.xor_zero]
  omega
theorem crcS_lt {x : Nat} (h : x < 2 ^ 32) : crcS x < 2 ^ 32 := by
  unfold crcS
  refine Nat.xor_lt_two_pow (by omega) ?_
  split <;> decide
theorem crcS_zero {z : Nat} (h : z < 2 ^ 32) (hz : crcS z = 0) : z = 0 := by
  unfold crcS at hz
  have h1 : z / 2 = if z % 2 = 1 then 2197175160 else 0 := by
    have h2 : (z / 2 ^^^ (if z % 2 = 1 then 2197175160 else 0)) ^^^ (if z % 2 = 1 then 2197175160 else 0) = 0 ^^^ (if z % 2 = 1 then 2197175160 else 0) := by rw [hz]
    rw [Nat.xor_assoc, Nat.xor_self, Nat.xor_zero, Nat.zero_xor] at h2
    exact h2
  split at h1 <;> omega
def crcSn : Nat → Nat → Nat
  | 0, x => x
  | n + 1, x => crcSn n (crcS x)
theorem crcSn_xor (n : Nat) : ∀ a b, crcSn n (a ^^^ b) = crcSn n a ^^^ crcSn n b := by
  induction n with
  | zero => intro a b; rfl
  | succ n ih => intro a b; simp only [crcSn]; rw [crcS_xor, ih]
theorem crcSn_pow (n : Nat) : ∀ y, crcSn n (2 ^ n * y) = y := by
  induction n with
  | zero => intro y; simp [crcSn]
  | succ n ih =>
    intro y
    simp only [crcSn]
    rw [show 2 ^ (n + 1) * y = 2 * (2 ^ n * y) by rw [Nat.pow_succ, Nat.mul_comm (2 ^ n) 2, Nat.mul_assoc], crcS_two, ih]
theorem crcSn_lt (n : Nat) : ∀ {x}, x < 2 ^ 32 → crcSn n x < 2 ^ 32 := by
  induction n with
  | zero => intro x h; exact h
  | succ n ih => intro x h; exact ih (crcS_lt h)
theorem crcSn_zero (n : Nat) : ∀ {x}, x < 2 ^ 32 → crcSn n x = 0 → x = 0 := by
  induction n with
  | zero => intro x h hz; exact hz
  | succ n ih => intro x h hz; exact crcS_zero h (ih (crcS_lt h) hz)
theorem xor_zero_eq {a b : Nat} (h : a ^^^ b = 0) : a = b := by
  have h2 : (a ^^^ b) ^^^ b = 0 ^^^ b := by rw [h]
  rwa [Nat.xor_assoc, Nat.xor_self, Nat.xor_zero, Nat.zero_xor] at h2
theorem crcSn_inj (n : Nat) {x y : Nat} (hx : x < 2 ^ 32) (hy : y < 2 ^ 32) (h : crcSn n x = crcSn n y) : x = y := by
  refine xor_zero_eq (crcSn_zero n (Nat.xor_lt_two_pow hx hy) ?_)
  rw [crcSn_xor, h, Nat.xor_self]
theorem crcSn_add (m n : Nat) : ∀ x, crcSn (m + n) x = crcSn n (crcSn m x) := by
  induction m with
  | zero => intro x; simp [crcSn]
  | succ m ih => intro x; rw [show m + 1 + n = (m + n) + 1 by omega]; simp only [crcSn]; rw [ih]
theorem crcSn_low (n x : Nat) : crcSn n x = x / 2 ^ n ^^^ crcSn n (x % 2 ^ n) := by
  have h : x ^^^ (x % 2 ^ n) = 2 ^ n * (x / 2 ^ n) := by
    have h1 : (x ^^^ (x % 2 ^ n)) / 2 ^ n = x / 2 ^ n := by
      rw [Nat.xor_div_two_pow, Nat.div_eq_of_lt (Nat.mod_lt x (Nat.two_pow_pos n)), Nat.xor_zero]
    have h2 : (x ^^^ (x % 2 ^ n)) % 2 ^ n = 0 := by
      rw [Nat.xor_mod_two_pow, Nat.mod_mod, Nat.xor_self]
    have h3 := Nat.div_add_mod (x ^^^ (x % 2 ^ n)) (2 ^ n)
    rw [h1, h2] at h3
    omega
  have h4 : x = (2 ^ n * (x / 2 ^ n)) ^^^ (x % 2 ^ n) := by
    rw [← h, Nat.xor_assoc, Nat.xor_self, Nat.xor_zero]
  conv => lhs; rw [h4]
  rw [crcSn_xor, crcSn_pow]

/-! ### The register after bytes -/
def crcT (x c : Nat) : Nat := crcSn 8 (x ^^^ c)
def crcN (x : Nat) (l : List Nat) : Nat := l.foldl crcT x
def le4 : List Nat → Nat
  | [] => 0
  | c :: l => c ^^^ 256 * le4 l
theorem crcN_le (l : List Nat) : ∀ x, crcN x l = crcSn (8 * l.length) (x ^^^ le4 l) := by
  induction l with
  | nil => intro x; simp [crcN, le4, crcSn]
  | cons c l ih =>
    intro x
    have h : crcN x (c :: l) = crcN (crcT x c) l := rfl
    rw [h, ih, List.length_cons, show 8 * (l.length + 1) = 8 + 8 * l.length by omega, crcSn_add]
    congr 1
    simp only [le4, crcT]
    rw [← Nat.xor_assoc, crcSn_xor 8 (x ^^^ c), show 256 * le4 l = 2 ^ 8 * le4 l from rfl, crcSn_pow]
theorem crcT_lt {x c : Nat} (hx : x < 2 ^ 32) (hc : c < 256) : crcT x c < 2 ^ 32 := crcSn_lt 8 (Nat.xor_lt_two_pow hx (by omega))
theorem crcN_lt (l : List Nat) : ∀ {x}, x < 2 ^ 32 → (∀ c ∈ l, c < 256) → crcN x l < 2 ^ 32 := by
  induction l with
  | nil => intro x hx _; exact hx
  | cons c l ih => intro x hx hl; exact ih (crcT_lt hx (hl c (by simp))) (fun d hd => hl d (by simp [hd]))
theorem crcN_inj (l : List Nat) : ∀ {x y}, x < 2 ^ 32 → y < 2 ^ 32 → (∀ c ∈ l, c < 256) → crcN x l = crcN y l → x = y := by
  induction l with
  | nil => intro x y _ _ _ h; exact h
  | cons c l ih =>
    intro x y hx hy hl h
    have hc := hl c (by simp)
    have h1 := ih (crcT_lt hx hc) (crcT_lt hy hc) (fun d hd => hl d (by simp [hd])) h
    have h2 := crcSn_inj 8 (Nat.xor_lt_two_pow hx (by omega)) (Nat.xor_lt_two_pow hy (by omega)) h1
    have h3 : (x ^^^ c) ^^^ c = (y ^^^ c) ^^^ c := by rw [h2]
    rwa [Nat.xor_assoc, Nat.xor_self, Nat.xor_zero, Nat.xor_assoc, Nat.xor_self, Nat.xor_zero] at h3
theorem crcN_append (x : Nat) (l m : List Nat) : crcN x (l ++ m) = crcN (crcN x l) m := List.foldl_append ..
/-- Up to four bytes at one place: another register behind them. -/
theorem le4_inj : ∀ (l m : List Nat), l.length = m.length → (∀ c ∈ l, c < 256) → (∀ c ∈ m, c < 256) → le4 l = le4 m → l = m := by
  intro l
  induction l with
  | nil => intro m h _ _ _; exact (List.length_eq_zero_iff.1 h.symm).symm
  | cons c l ih =>
    intro m h hl hm he
    obtain ⟨d, m, rfl⟩ : ∃ d m', m = d :: m' := by
      cases m with
      | nil => simp at h
      | cons d m => exact ⟨d, m, rfl⟩
    have hc := hl c (by simp)
    have hd := hm d (by simp)
    simp only [le4] at he
    have h1 : (c ^^^ 256 * le4 l) % 2 ^ 8 = (d ^^^ 256 * le4 m) % 2 ^ 8 := by rw [he]
    have h2 : (c ^^^ 256 * le4 l) / 2 ^ 8 = (d ^^^ 256 * le4 m) / 2 ^ 8 := by rw [he]
    rw [Nat.xor_mod_two_pow, Nat.xor_mod_two_pow, show (256 * le4 l) % 2 ^ 8 = 0 by omega, show (256 * le4 m) % 2 ^ 8 = 0 by omega, Nat.xor_zero, Nat.xor_zero, Nat.mod_eq_of_lt (show c < 2 ^ 8 by omega), Nat.mod_eq_of_lt (show d < 2 ^ 8 by omega)] at h1
    rw [Nat.xor_div_two_pow, Nat.xor_div_two_pow, show (256 * le4 l) / 2 ^ 8 = le4 l by omega, show (256 * le4 m) / 2 ^ 8 = le4 m by omega, show c / 2 ^ 8 = 0 by omega, show d / 2 ^ 8 = 0 by omega, Nat.zero_xor, Nat.zero_xor] at h2
    rw [h1, ih m (by simpa using h) (fun x hx => hl x (by simp [hx])) (fun x hx => hm x (by simp [hx])) h2]
theorem le4_lt : ∀ (l : List Nat) (n : Nat), l.length ≤ n → (∀ c ∈ l, c < 256) → le4 l < 2 ^ (8 * n) := by
  intro l
  induction l with
  | nil => intro n _ _; exact Nat.two_pow_pos _
  | cons c l ih =>
    intro n hn hl
    obtain ⟨n, rfl⟩ : ∃ m, n = m + 1 := ⟨n - 1, by simp at hn; omega⟩
    have h1 := ih n (by simpa using hn) (fun x hx => hl x (by simp [hx]))
    have hp : 2 ^ (8 * (n + 1)) = 256 * 2 ^ (8 * n) := by rw [show 8 * (n + 1) = 8 + 8 * n by omega, Nat.pow_add]
    have hp0 : 1 ≤ 2 ^ (8 * n) := Nat.two_pow_pos _
    have hc := hl c (by simp)
    simp only [le4]
    refine Nat.xor_lt_two_pow ?_ ?_ <;> rw [hp]
    · omega
    · omega
theorem crcN_burst {x : Nat} (hx : x < 2 ^ 32) (l m : List Nat) (h : l.length = m.length) (h4 : l.length ≤ 4) (hl : ∀ c ∈ l, c < 256) (hm : ∀ c ∈ m, c < 256) (he : crcN x l = crcN x m) : l = m := by
  rw [crcN_le, crcN_le, h] at he
  have b1 : le4 l < 2 ^ 32 := le4_lt l 4 h4 hl
  have b2 : le4 m < 2 ^ 32 := le4_lt m 4 (by omega) hm
  have h1 := crcSn_inj _ (Nat.xor_lt_two_pow hx b1) (Nat.xor_lt_two_pow hx b2) he
  have h2 : x ^^^ (x ^^^ le4 l) = x ^^^ (x ^^^ le4 m) := by rw [h1]
  rw [← Nat.xor_assoc, ← Nat.xor_assoc, Nat.xor_self, Nat.zero_xor, Nat.zero_xor] at h2
  exact le4_inj l m h hl hm h2

/-! ### The same, of whole numbers -/
theorem xor_nat (a b : Nat) (ha : a < 2 ^ 32) (hb : b < 2 ^ 32) : Go.bits .xor .u32 (a : Int) (b : Int) = ((a ^^^ b : Nat) : Int) := by
  have h : (a ^^^ b) < 2 ^ 32 := Nat.xor_lt_two_pow ha hb
  have ha' : a % 2 ^ IntKind.u32.bits = a := Nat.mod_eq_of_lt ha
  have hb' : b % 2 ^ IntKind.u32.bits = b := Nat.mod_eq_of_lt hb
  simp only [Go.bits, BitVec.ofInt_natCast, BitVec.toNat_xor, BitVec.toNat_ofNat, ha', hb']
  rw [IntKind.wrap_u32]
  omega
theorem xor_nat8 (a b : Nat) (ha : a < 256) (hb : b < 256) : Go.bits .xor .u8 (a : Int) (b : Int) = ((a ^^^ b : Nat) : Int) := by
  have h : (a ^^^ b) < 2 ^ 8 := Nat.xor_lt_two_pow (by omega) (by omega)
  have ha' : a % 2 ^ IntKind.u8.bits = a := Nat.mod_eq_of_lt ha
  have hb' : b % 2 ^ IntKind.u8.bits = b := Nat.mod_eq_of_lt hb
  simp only [Go.bits, BitVec.ofInt_natCast, BitVec.toNat_xor, BitVec.toNat_ofNat, ha', hb']
  rw [IntKind.wrap_u8]
  omega
theorem wraps_u32 (n : Int) (h0 : 0 ≤ n) (h1 : n < 2 ^ 32) : IntKind.u32.wrap n = n := by rw [IntKind.wrap_u32]; omega
theorem and_one (a : Nat) (ha : a < 2 ^ 32) : Go.bits .and .u32 (a : Int) 1 = ((a % 2 : Nat) : Int) := by
  have := bits_mask .u32 32 (by decide) wraps_u32 1 (by decide) (a : Int) (by omega) (by omega)
  simpa using this
theorem and_fifteen (a : Nat) (ha : a < 2 ^ 32) : Go.bits .and .u32 (a : Int) 15 = ((a % 16 : Nat) : Int) := by
  have := bits_mask .u32 32 (by decide) wraps_u32 4 (by decide) (a : Int) (by omega) (by omega)
  simpa using this
theorem crcStep_nat (a : Nat) (ha : a < 2 ^ 32) : crcStep (a : Int) = (crcS a : Int) := by
  unfold crcStep crcS
  rw [and_one a ha]
  by_cases h : a % 2 = 1
  · rw [if_pos (by omega), if_pos h, show ((a : Int) / 2) = ((a / 2 : Nat) : Int) by omega, show (2197175160 : Int) = ((2197175160 : Nat) : Int) from rfl, xor_nat _ _ (by omega) (by decide)]
  · rw [if_neg (by omega), if_neg h, Nat.xor_zero]
    omega
theorem crcSn_snoc (n : Nat) : ∀ x, crcSn (n + 1) x = crcS (crcSn n x) := fun x => by rw [crcSn_add]; rfl
theorem crcSteps_nat (j a : Nat) (ha : a < 2 ^ 32) : crcSteps j (a : Int) = (crcSn j a : Int) := by
  induction j with
  | zero => rfl
  | succ j ih => rw [crcSn_snoc]; simp only [crcSteps]; rw [ih, crcStep_nat _ (crcSn_lt j ha)]
theorem crcHalf_nat (a : Nat) (ha : a < 2 ^ 32) : crcHalf (a : Int) = (crcSn 4 a : Int) := by
  unfold crcHalf tabZ tabV
  have h16 : a % 16 < 2 ^ 32 := by omega
  rw [and_fifteen a ha, Int.toNat_natCast, crcSteps_nat 4 _ h16, show ((a : Int) / 16) = ((a / 16 : Nat) : Int) by omega, xor_nat _ _ (by omega) (crcSn_lt 4 h16), crcSn_low 4 a]
theorem crcIn_nat (a c : Nat) (ha : a < 2 ^ 32) (hc : c < 256) : crcIn (a : Int) (c : Int) = (crcT a c : Int) := by
  unfold crcIn crcT
  have hx : a ^^^ c < 2 ^ 32 := Nat.xor_lt_two_pow ha (by omega)
  rw [show ((c : Int) % 4294967296) = (c : Int) by omega, xor_nat _ _ ha (by omega), crcHalf_nat _ hx, crcHalf_nat _ (crcSn_lt 4 hx), ← crcSn_add]
def nats (l : List Int) : List Nat := l.map Int.toNat
theorem nats_lt {l : List Int} (hl : ∀ x ∈ l, 0 ≤ x ∧ x < 256) : ∀ c ∈ nats l, c < 256 := by
  intro c hc
  obtain ⟨x, hx, rfl⟩ := List.mem_map.1 hc
  have := hl x hx
  omega
theorem crcIn_fold (l : List Int) : ∀ a : Nat, a < 2 ^ 32 → (∀ x ∈ l, 0 ≤ x ∧ x < 256) → l.foldl crcIn (a : Int) = (crcN a (nats l) : Int) := by
  induction l with
  | nil => intro a _ _; rfl
  | cons c l ih =>
    intro a ha hl
    have hc := hl c (by simp)
    have h1 : crcIn (a : Int) c = (crcT a c.toNat : Int) := by
      rw [← crcIn_nat a c.toNat ha (by omega), Int.toNat_of_nonneg hc.1]
    rw [List.foldl_cons, h1, ih _ (crcT_lt ha (by omega)) (fun x hx => hl x (by simp [hx]))]
    rfl
/-- The checksum of bytes after a checksum. -/
def crcE (s : Nat) (l : List Int) : Nat := 4294967295 ^^^ crcN (4294967295 ^^^ s) (nats l)
theorem crcE_lt {s : Nat} (hs : s < 2 ^ 32) {l : List Int} (hl : ∀ x ∈ l, 0 ≤ x ∧ x < 256) : crcE s l < 2 ^ 32 :=
  Nat.xor_lt_two_pow (by decide) (crcN_lt _ (Nat.xor_lt_two_pow (by decide) hs) (nats_lt hl))
theorem Extend_go (s : Nat) (hs : s < 2 ^ 32) (l : List Int) (hl : ∀ x ∈ l, 0 ≤ x ∧ x < 256) : checksum_Extend.f (s : Int) l = some (crcE s l : Int) := by
  unfold checksum_Extend.f crcE
  have h0 : 4294967295 ^^^ s < 2 ^ 32 := Nat.xor_lt_two_pow (by decide) hs
  rw [show (4294967295 : Int) = ((4294967295 : Nat) : Int) from rfl, xor_nat _ _ (by decide) hs, crcIn_fold l _ h0 hl, xor_nat _ _ (by decide) (crcN_lt _ h0 (nats_lt hl))]
theorem rtake_go (x c : Nat) (hx : x < 2 ^ 32) : ∀ (j : Nat), j ≤ 8 → Ev (fun k => codesearchref04_take.l0 k (crcSn (8 - j) x : Int) ((8 - j : Nat) : Int)) (crcSn 8 x : Int) := by
  intro j
  induction j with
  | zero =>
    intro _
    refine Ev.step (f := fun _ => some (crcSn 8 x : Int)) (fun k => ?_) (Ev.now _)
    rw [codesearchref04_take.l0, if_neg (by decide)]
  | succ j ih =>
    intro hj
    refine Ev.step (f := fun k => codesearchref04_take.l0 k (crcSn (8 - j) x : Int) ((8 - j : Nat) : Int)) (fun k => ?_) (ih (by omega))
    have hy : crcSn (8 - (j + 1)) x < 2 ^ 32 := crcSn_lt _ hx
    have e : crcSn (8 - j) x = crcS (crcSn (8 - (j + 1)) x) := by rw [show 8 - j = (8 - (j + 1)) + 1 by omega, crcSn_snoc]
    rw [e]
    generalize crcSn (8 - (j + 1)) x = y at hy
    rw [codesearchref04_take.l0, if_pos (show ((8 - (j + 1) : Nat) : Int) < 8 by omega), w64 (by omega) (by omega), show ((8 - (j + 1) : Nat) : Int) + 1 = ((8 - j : Nat) : Int) by omega]
    rw [Int.tmod_eq_emod_of_nonneg (by omega), Int.tdiv_eq_ediv_of_nonneg (by omega)]
    have e2 : ((y : Int) / 2) % 4294967296 = ((y / 2 : Nat) : Int) := by omega
    rw [e2]
    unfold crcS
    by_cases h : y % 2 = 1
    · rw [if_pos (by omega), if_pos h, show (2197175160 : Int) = ((2197175160 : Nat) : Int) from rfl, xor_nat _ _ (by omega) (by decide)]
    · rw [if_neg (by omega), if_neg h, Nat.xor_zero]
theorem rtake (x c : Nat) (hx : x < 2 ^ 32) (hc : c < 256) : Ev (fun k => codesearchref04_take.f k (x : Int) (c : Int)) (crcT x c : Int) := by
  unfold codesearchref04_take.f
  rw [show ((c : Int) % 4294967296) = (c : Int) by omega, xor_nat _ _ hx (by omega)]
  exact rtake_go (x ^^^ c) c (Nat.xor_lt_two_pow hx (by omega)) 8 (by omega)
theorem rExtend_loop (l : List Int) (hlen : l.length ≤ 140737488351232) (hl : ∀ x ∈ l, 0 ≤ x ∧ x < 256) : ∀ (n : Nat) (a : Nat), a < 2 ^ 32 → n ≤ l.length → Ev (fun k => codesearchref04_Extend.l0 k l (a : Int) ((l.length - n : Nat) : Int)) ((4294967295 ^^^ crcN a (nats (l.drop (l.length - n))) : Nat) : Int) := by
  intro n
  induction n with
  | zero =>
    intro a ha _
    refine Ev.step (f := fun _ => some ((4294967295 ^^^ crcN a (nats (l.drop (l.length - 0))) : Nat) : Int)) (fun k => ?_) (Ev.now _)
    rw [codesearchref04_Extend.l0, if_neg (by omega), show (4294967295 : Int) = ((4294967295 : Nat) : Int) from rfl, xor_nat _ _ (by decide) ha]
    simp [nats, crcN]
  | succ n ih =>
    intro a ha hn
    have hi : l.length - (n + 1) < l.length := by omega
    have hc := hl _ (List.getElem_mem hi)
    have ed : l.drop (l.length - (n + 1)) = l[l.length - (n + 1)] :: l.drop (l.length - n) := by
      rw [drop_cons l _ hi, show l.length - (n + 1) + 1 = l.length - n by omega]
    rw [ed]
    have h2 := ih (crcT a (l[l.length - (n + 1)]).toNat) (crcT_lt ha (by omega)) (by omega)
    have h3 := rtake a (l[l.length - (n + 1)]).toNat ha (by omega)
    rw [Int.toNat_of_nonneg hc.1] at h3
    rw [show crcN a (nats (l[l.length - (n + 1)] :: l.drop (l.length - n))) = crcN (crcT a (l[l.length - (n + 1)]).toNat) (nats (l.drop (l.length - n))) from rfl]
    refine Ev.step (fun k => ?_) (Ev.bind (f := fun k t => codesearchref04_Extend.l0 k l t ((l.length - n : Nat) : Int)) h3 h2)
    rw [codesearchref04_Extend.l0, if_pos (by omega), if_pos (by omega), rd_nat l _ hi, w64 (by omega) (by omega), show ((l.length - (n + 1) : Nat) : Int) + 1 = ((l.length - n : Nat) : Int) by omega]
theorem rExtend_go (s : Nat) (hs : s < 2 ^ 32) (l : List Int) (hlen : l.length ≤ 140737488351232) (hl : ∀ x ∈ l, 0 ≤ x ∧ x < 256) : Ev (fun k => codesearchref04_Extend.f k (s : Int) l) (crcE s l : Int) := by
  unfold codesearchref04_Extend.f crcE
  rw [show (4294967295 : Int) = ((4294967295 : Nat) : Int) from rfl, xor_nat _ _ (by decide) hs]
  have h := rExtend_loop l hlen hl l.length (4294967295 ^^^ s) (Nat.xor_lt_two_pow (by decide) hs) (Nat.le_refl _)
  rw [Nat.sub_self] at h
  exact h
theorem Sum_go (l : List Int) (hl : ∀ x ∈ l, 0 ≤ x ∧ x < 256) : checksum_Sum.f l = some (crcE 0 l : Int) := by
  unfold checksum_Sum.f
  have h := Extend_go 0 (by decide) l hl
  rw [show ((0 : Nat) : Int) = 0 from rfl] at h
  rw [h, Option.bind_some]
theorem rSum_go (l : List Int) (hlen : l.length ≤ 140737488351232) (hl : ∀ x ∈ l, 0 ≤ x ∧ x < 256) : Ev (fun k => codesearchref04_Sum.f k l) (crcE 0 l : Int) := by
  unfold codesearchref04_Sum.f
  have h := rExtend_go 0 (by decide) l hlen hl
  exact Ev.bind h (Ev.now _)
end Go.Proofs.Ytihfpmociffpeaa.Q
