/- ManifestTorn, over lists alone. -/
import Derived.Test.YtmgliocboeifdaaDoorStManifestTorn
import Derived.Test.YtmgliocboeifdaaDoorTQ33
namespace Go.Proofs.YtmgliocboeifdaaDoor.Pure
open Go.RowKit Go.Proofs.YtmgliocboeifdaaDoorW.PrintWords Go.Proofs.YtmgliocboeifdaaDoorW.PrintLast Go.Proofs.YtmgliocboeifdaaDoorW.PrintMore Go.Proofs.YtmgliocboeifdaaDoor.T Go.Proofs.YtmgliocboeifdaaDoor.Q
set_option linter.unusedVariables false
set_option linter.unusedSimpArgs false
theorem wf_u16 {x : Int} : (Lit.int .u16 x).wf = true ↔ 0 ≤ x ∧ x < 65536 := by
  simp [Lit.wf, IntKind.min, IntKind.max, IntKind.signed, IntKind.bits]; omega
/-- So many frames are whole up to a place. -/
theorem whole_ex : ∀ (l : List SE) (k : Nat), ∃ W, W ≤ l.length ∧ (frames (l.take W)).length ≤ k ∧ (∀ i, W < i → i ≤ l.length → k < (frames (l.take i)).length)
  | [], k => ⟨0, Nat.le_refl _, by simp [frames], fun i h1 h2 => by simp at h2; omega⟩
  | e :: l, k => by
    by_cases c : (sealL (encM e)).length ≤ k
    · obtain ⟨W, h1, h2, h3⟩ := whole_ex l (k - (sealL (encM e)).length)
      refine ⟨W + 1, by rw [List.length_cons]; omega, by rw [List.take_succ_cons, frames_cons, List.length_append]; omega, fun i hi hi2 => ?_⟩
      obtain ⟨j, rfl⟩ : ∃ j, i = j + 1 := ⟨i - 1, by omega⟩
      have := h3 j (by omega) (by rw [List.length_cons] at hi2; omega)
      rw [List.take_succ_cons, frames_cons, List.length_append]
      omega
    · refine ⟨0, Nat.zero_le _, by simp [frames], fun i hi hi2 => ?_⟩
      obtain ⟨j, rfl⟩ : ∃ j, i = j + 1 := ⟨i - 1, by omega⟩
      rw [List.take_succ_cons, frames_cons, List.length_append]
      omega
theorem frames_mono (l : List SE) {i j : Nat} (h : i ≤ j) : (frames (l.take i)).length ≤ (frames (l.take j)).length := by
  have := frames_le (l.take j) i
  rw [List.take_take, Nat.min_eq_left h] at this
  exact this
theorem frames_long (l : List SE) : l.length ≤ (frames l).length := by
  induction l with
  | nil => simp
  | cons e l ih => rw [frames_cons, List.length_append, sealL_len, List.length_cons]; omega
/-- What stands behind the whole frames is a torn one. -/
theorem torn_form (l : List SE) (k W : Nat) (hk : k ≤ (frames l).length) (hW : W ≤ l.length) (h1 : (frames (l.take W)).length ≤ k) (h2 : ∀ i, W < i → i ≤ l.length → k < (frames (l.take i)).length) (hok : ∀ e ∈ l, okE e) :
    ∃ (c : List Int) (r : Nat), (frames l).take k = frames (l.take W) ++ (sealL c).take r ∧ r < (sealL c).length ∧ c.length ≤ 140737488351000 := by
  have hs := frames_split l W
  by_cases c : W < l.length
  · have hd := List.drop_eq_getElem_cons c
    have hw := h2 (W + 1) (by omega) (by omega)
    rw [frames_take l W c, List.length_append] at hw
    have hel := encM_len l[W]
    have := (hok _ (List.getElem_mem c)).2.2.2.2.2.2
    refine ⟨encM l[W], k - (frames (l.take W)).length, ?_, by omega, by omega⟩
    rw [hs, List.take_append, List.take_of_length_le h1, hd, frames_cons, List.take_append_of_le_length (by omega)]
  · refine ⟨[], 0, ?_, by rw [sealL_len]; simp, by simp⟩
    have hl : l.take W = l := List.take_of_length_le (by omega)
    rw [hl] at h1 ⊢
    rw [List.take_of_length_le (by omega)]
    simp
theorem recR_prefix (b : List Int) : ∀ (m : Nat) (acc : List SE) (a : Int), ∃ t, (recR b m acc a).1 = acc ++ t
  | 0, acc, a => ⟨[], by rw [recR, List.append_nil]⟩
  | m + 1, acc, a => by
    rw [recR]
    by_cases c : (openL b a big).2.2 = 0
    · rw [if_pos c]
      cases hd : decO (openL b a big).1 with
      | none => exact ⟨[], by simp⟩
      | some e =>
        dsimp only
        by_cases c2 : e.f0 = ((acc.length + 1 : Nat) : Int)
        · rw [if_pos c2]
          obtain ⟨t, ht⟩ := recR_prefix b m (acc ++ [e]) (openL b a big).2.1
          exact ⟨e :: t, by rw [ht, List.append_assoc]; rfl⟩
        · rw [if_neg c2]
          exact ⟨[], by simp⟩
    · rw [if_neg c]
      exact ⟨[], by simp⟩
theorem strsB_bound (M : Nat) (l : List ByteArray) (h : ∀ s ∈ l, s.size ≤ M) : (strsB l).length ≤ l.length * (M + 10) := by
  induction l with
  | nil => simp [strsB]
  | cons s l ih =>
    have e1 : strsB (s :: l) = strB s ++ strsB l := by simp [strsB]
    have := ih (fun x hx => h x (List.mem_cons_of_mem _ hx))
    have hs := h s List.mem_cons_self
    have he := enc7_length 10 (s.size : Int)
    rw [e1, List.length_append, strB, List.length_append, bytesOf_len, List.length_cons, Nat.succ_mul]
    omega
theorem frames_bound (M : Nat) (l : List SE) (h : ∀ e ∈ l, (encM e).length ≤ M) : (frames l).length ≤ l.length * (M + 14) := by
  induction l with
  | nil => simp [frames]
  | cons e l ih =>
    have := ih (fun x hx => h x (List.mem_cons_of_mem _ hx))
    have hs := h e List.mem_cons_self
    have he := enc7_length 10 ((encM e).length : Int)
    rw [frames_cons, List.length_append, sealL_len, List.length_cons, Nat.succ_mul]
    omega
theorem take_bytes {b : List Int} (hu : ∀ x ∈ b, 0 ≤ x ∧ x < 256) (k : Nat) : ∀ x ∈ b.take k, 0 ≤ x ∧ x < 256 := fun x hx => hu x (List.mem_of_mem_take hx)
/-- What Recover reads of whole frames and what stands behind. -/
theorem rec_take (l : List SE) (W : Nat) (z : List Int) (hn : numE 0 (l.take W)) (m : Nat) (hm : (l.take W).length ≤ m) : recR (frames (l.take W) ++ z) m [] 0 = recR (frames (l.take W) ++ z) (m - (l.take W).length) (l.take W) ((frames (l.take W)).length : Int) := by
  have := rec_whole (l.take W) [] z [] (m - (l.take W).length) hn
  rw [Nat.sub_add_cancel hm] at this
  simp only [List.nil_append, List.length_nil] at this
  exact this
theorem numE_take : ∀ (l : List SE) (n W : Nat), numE n l → numE n (l.take W)
  | [], n, W, h => by rw [List.take_nil]; exact h
  | e :: l, n, 0, h => trivial
  | e :: l, n, W + 1, ⟨h0, h1, h2, h3⟩ => ⟨h0, h1, h2, numE_take l (n + 1) W h3⟩
structure Big (l : List SE) (x2 : List Int) : Prop where
  n : l.length ≤ 40
  lists : ∀ e ∈ l, e.f3.length ≤ 40 ∧ e.f4.length ≤ 40 ∧ e.f5.length ≤ 40
  ok : ∀ e ∈ l, okE e
  num : numE 0 l
  len : (frames l).length ≤ 100000000000
  xb : ∀ x ∈ x2, 0 ≤ x ∧ x < 256
  xl : x2.length ≤ 1048576
theorem Big.same {l : List SE} {x2 : List Int} (h : Big l x2) (W : Nat) : Ev (fun k => codesearchref33_SameAll.f k (l.take W) (l.take W)) true :=
  SameAll_self _ (by have := h.n; rw [List.length_take]; omega) (fun e he => by have := h.lists e (List.mem_of_mem_take he); omega)
theorem Big.recover {l : List SE} {x2 : List Int} (h : Big l x2) {k W : Nat} (hk : k ≤ (frames l).length) (hW : W ≤ l.length) (h1 : (frames (l.take W)).length ≤ k) (h2 : ∀ i, W < i → i ≤ l.length → k < (frames (l.take i)).length) :
    Ev (fun j => manifest_Recover.f j ((frames l).take k)) (l.take W, ((frames (l.take W)).length : Int)) := by
  have hb := frames_bytes l h.ok
  have hlen := h.len
  obtain ⟨c, r, e, hr, hc⟩ := torn_form l k W hk hW h1 h2 h.ok
  have hR := Recover_is ((frames l).take k) (by rw [List.length_take]; omega) (take_bytes hb k)
  have hWl : (l.take W).length = W := by rw [List.length_take]; omega
  have hlong := frames_long (l.take W)
  have hkl : ((frames l).take k).length = k := by rw [List.length_take]; omega
  rw [hkl, e, rec_take l W _ (numE_take l 0 W h.num) (k + 1) (by omega), hWl] at hR
  obtain ⟨m, hm⟩ : ∃ m, k + 1 - W = m + 1 := ⟨k - W, by omega⟩
  rw [hm, recR, if_neg (open_torn (frames (l.take W)) c r hc hr)] at hR
  rw [e]
  exact hR
theorem Big.recover2 {l : List SE} {x2 : List Int} (h : Big l x2) {k W : Nat} (hk : k ≤ (frames l).length) (hW : W ≤ l.length) (h1 : (frames (l.take W)).length ≤ k) (h2 : ∀ i, W < i → i ≤ l.length → k < (frames (l.take i)).length) :
    ∃ t n, Ev (fun j => manifest_Recover.f j ((frames l).take k ++ x2)) (l.take W ++ t, n) := by
  have hb := frames_bytes l h.ok
  have hlen := h.len
  have hxl := h.xl
  obtain ⟨c, r, e, hr, hc⟩ := torn_form l k W hk hW h1 h2 h.ok
  have hR := Recover_is ((frames l).take k ++ x2) (by rw [List.length_append, List.length_take]; omega) (fun x hx => (List.mem_append.1 hx).elim (take_bytes hb k x) (h.xb x))
  have hWl : (l.take W).length = W := by rw [List.length_take]; omega
  have hlong := frames_long (l.take W)
  have hkl : ((frames l).take k ++ x2).length = k + x2.length := by rw [List.length_append, List.length_take]; omega
  rw [hkl] at hR
  obtain ⟨t, ht⟩ := recR_prefix ((frames l).take k ++ x2) (k + x2.length + 1 - W) (l.take W) ((frames (l.take W)).length : Int)
  have e3 : recR ((frames l).take k ++ x2) (k + x2.length + 1) [] 0 = recR ((frames l).take k ++ x2) (k + x2.length + 1 - W) (l.take W) ((frames (l.take W)).length : Int) := by
    have := rec_take l W ((sealL c).take r ++ x2) (numE_take l 0 W h.num) (k + x2.length + 1) (by omega)
    rw [hWl, ← List.append_assoc, ← e] at this
    exact this
  refine ⟨t, (recR ((frames l).take k ++ x2) (k + x2.length + 1 - W) (l.take W) ((frames (l.take W)).length : Int)).2, ?_⟩
  rw [← ht, ← e3]
  exact hR
theorem loop2 {l : List SE} {x2 : List Int} (h : Big l x2) {k W : Nat} (hk : k ≤ (frames l).length) (hW : W ≤ l.length) (h1 : (frames (l.take W)).length ≤ k) (h2 : ∀ i, W < i → i ≤ l.length → k < (frames (l.take i)).length) :
    ∀ d (i : Nat), i + d = x2.length → Ev (fun j => codesearchlaw33_ManifestTorn.l2 j l x2 (W : Int) ((frames l).take k ++ x2.take i) (i : Int)) true := by
  have hlen := h.len
  have hxl := h.xl
  have hn := h.n
  intro d
  induction d with
  | zero =>
    intro i hi
    rw [show x2.take i = x2 from List.take_of_length_le (by omega)]
    obtain ⟨t, n, hR⟩ := h.recover2 hk hW h1 h2
    have hWl : (l.take W).length = W := by rw [List.length_take]; omega
    refine Ev.step (fun j => by rw [codesearchlaw33_ManifestTorn.l2, if_neg (show ¬ (i : Int) < (x2.length : Int) by omega)]) (Ev.bind hR ?_)
    refine Ev.ite_pos (show ((l.take W ++ t).length : Int) ≥ (W : Int) by rw [List.length_append, hWl]; omega) (Ev.ite_pos (show (0 : Int) ≤ (W : Int) by omega) (Ev.ite_pos (show (W : Int) ≤ ((l.take W ++ t).length : Int) by rw [List.length_append, hWl]; omega) (Ev.ite_pos (show (W : Int) ≤ (l.length : Int) by omega) ?_)))
    refine Ev.congr (fun j => by rw [Int.toNat_natCast, List.take_append_of_le_length (by omega), List.take_of_length_le (Nat.le_of_eq hWl)]) (Ev.bind (h.same W) (Ev.now _))
  | succ d ih =>
    intro i hi
    have hlt : i < x2.length := by omega
    have next := ih (i + 1) (by omega)
    refine Ev.step (fun j => by rw [codesearchlaw33_ManifestTorn.l2, if_pos (show (i : Int) < (x2.length : Int) by omega), if_pos (show (0 : Int) ≤ (i : Int) by omega), if_pos (show ((frames l).take k ++ x2.take i).length < 140737488355328 by rw [List.length_append, List.length_take, List.length_take]; omega), rd_nat x2 i hlt, w1 i (by omega), List.append_assoc, take_snoc x2 i hlt]) next
theorem loop1 {l : List SE} {x2 : List Int} (h : Big l x2) {k W : Nat} (hk : k ≤ (frames l).length) (hW : W ≤ l.length) (h1 : (frames (l.take W)).length ≤ k) (h2 : ∀ i, W < i → i ≤ l.length → k < (frames (l.take i)).length) :
    ∀ d (i : Nat), i + d = k → Ev (fun j => codesearchlaw33_ManifestTorn.l1 j l x2 (frames l) (k : Int) (W : Int) ((frames l).take i) (i : Int)) true := by
  have hlen := h.len
  intro d
  induction d with
  | zero =>
    intro i hi
    obtain rfl : i = k := by omega
    have := loop2 h hk hW h1 h2 x2.length 0 (by omega)
    rw [List.take_zero, List.append_nil] at this
    exact Ev.step (fun j => by rw [codesearchlaw33_ManifestTorn.l1, if_neg (show ¬ (i : Int) < (i : Int) by omega)]; rfl) this
  | succ d ih =>
    intro i hi
    have hlt : i < (frames l).length := by omega
    have next := ih (i + 1) (by omega)
    refine Ev.step (fun j => by rw [codesearchlaw33_ManifestTorn.l1, if_pos (show (i : Int) < (k : Int) by omega), if_pos (show (0 : Int) ≤ (i : Int) by omega), if_pos (show (i : Int) < ((frames l).length : Int) by omega), if_pos (show ((frames l).take i).length < 140737488355328 by rw [List.length_take]; omega), rd_nat _ i hlt, w1 i (by omega), take_snoc _ i hlt]) next
theorem loop0 {l : List SE} {x2 : List Int} (h : Big l x2) {k W : Nat} (hk : k ≤ (frames l).length) (hW : W ≤ l.length) (h1 : (frames (l.take W)).length ≤ k) (h2 : ∀ i, W < i → i ≤ l.length → k < (frames (l.take i)).length) :
    ∀ d (i : Nat), i + d = l.length → Ev (fun j => codesearchlaw33_ManifestTorn.l0 j l x2 (frames l) (k : Int) ((min W i : Nat) : Int) ((frames (l.take (min W i))).length : Int) ((i + 1 : Nat) : Int)) true := by
  have hlen := h.len
  have hn := h.n
  intro d
  induction d with
  | zero =>
    intro i hi
    obtain rfl : i = l.length := by omega
    rw [Nat.min_eq_left hW]
    have hR := h.recover hk hW h1 h2
    refine Ev.step (fun j => by rw [codesearchlaw33_ManifestTorn.l0, if_neg (show ¬ ((l.length + 1 : Nat) : Int) ≤ (l.length : Int) by omega), if_pos (show (0 : Int) ≤ (k : Int) by omega), if_pos (show (k : Int) ≤ ((frames l).length : Int) by omega), Int.toNat_natCast]) (Ev.bind hR (Ev.ite_pos rfl (Ev.ite_pos (show (0 : Int) ≤ (W : Int) by omega) (Ev.ite_pos (show (W : Int) ≤ (l.length : Int) by omega) ?_))))
    refine Ev.congr (fun j => by rw [Int.toNat_natCast]) (Ev.bind (h.same W) ?_)
    have := loop1 h hk hW h1 h2 k 0 (by omega)
    rw [List.take_zero] at this
    exact Ev.step (fun j => by rw [codesearchlaw33_ManifestTorn.j2, if_neg (by decide)]; rfl) this
  | succ d ih =>
    intro i hi
    have next := ih (i + 1) (by omega)
    have hm := frames_le l (i + 1)
    have hWr := Write_is (l.take (i + 1)) (fun e he => h.ok e (List.mem_of_mem_take he)) (by rw [List.length_take]; omega) (by omega)
    refine Ev.step (fun j => by rw [codesearchlaw33_ManifestTorn.l0, if_pos (show ((i + 1 : Nat) : Int) ≤ (l.length : Int) by omega), if_pos (show (0 : Int) ≤ ((i + 1 : Nat) : Int) by omega), Int.toNat_natCast, w1 (i + 1) (by omega)]) (Ev.bind hWr ?_)
    by_cases c : i + 1 ≤ W
    · have hle := frames_mono l c
      rw [Nat.min_eq_right c] at next
      exact Ev.ite_pos (by omega) next
    · have hgt := h2 (i + 1) (by omega) (by omega)
      rw [Nat.min_eq_left (show W ≤ i + 1 by omega)] at next
      rw [Nat.min_eq_left (show W ≤ i by omega)]
      exact Ev.ite_neg (by omega) next
theorem ManifestTorn : StManifestTorn.Pure := by
  intro U l cut x2 hU hl hcut hx
  have hcut := wf_u16.1 hcut
  have stop : Ev (fun k => codesearchlaw33_ManifestTorn.j0 k l cut x2 true) true := Ev.step (f := fun _ => some true) (fun k => by rw [codesearchlaw33_ManifestTorn.j0, if_pos rfl]) (Ev.now _)
  refine Ev.rounds (Ev.congr (fun k => rfl) (Ev.bind alive33 (Ev.ite_pos rfl (Ev.bind (small_is l) ?_))))
  by_cases hs : smallM l = true
  · rw [hs]
    obtain ⟨h3, h4⟩ := small_all hs
    refine Ev.ite_pos rfl (Ev.bind (plain_is l (by omega) (fun e he => by have := h4 e he; omega)) ?_)
    by_cases hp : plainB 0 l = true
    · rw [hp]
      have hsz : ∀ e ∈ l, (strsB e.f5).length ≤ 40 * (1048576 + 10) := fun e he => by
        have hg := hl.2.2.2 e he
        have := strsB_bound 1048576 e.f5 (fun s hs => by have := (hg.2.2.2.2.2.2.2.2 s hs).2; omega)
        have h5 := (h4 e he).2.2
        exact Nat.le_trans this (Nat.mul_le_mul_right _ h5)
      have hok : ∀ e ∈ l, okE e := fun e he => by
        have hg := hl.2.2.2 e he
        have := hsz e he
        have := h4 e he
        exact ⟨fun x hx => wf_i64.1 (hg.2.2.2.1.2.2.2 x hx), fun x hx => wf_i64.1 (hg.2.2.2.2.1.2.2.2 x hx), (wf_i64.1 hg.1).2, (wf_i64.1 hg.2.1).2, (wf_i64.1 hg.2.2.1).2, by omega, by omega⟩
      have hfb := frames_bound (40 * (1048576 + 10) + 1000) l (fun e he => by
        have := encM_len e
        have := hsz e he
        have := h4 e he
        omega)
      have hfb2 : l.length * (40 * (1048576 + 10) + 1000 + 14) ≤ 40 * (40 * (1048576 + 10) + 1000 + 14) := Nat.mul_le_mul_right _ h3
      have hB : Big l x2 := ⟨h3, h4, hok, plainB_num l 0 (by omega) hp hok, by omega, fun x hx2 => wf_u8.1 (hx.2.2.2 x hx2), by omega⟩
      refine Ev.step (fun k => by rw [codesearchlaw33_ManifestTorn.j0, if_neg (by decide)]) (Ev.bind (Write_is l hok (by omega) (by omega)) ?_)
      have hw : wrap64 (((frames l).length : Int) + 1) = (((frames l).length + 1 : Nat) : Int) := w1 _ (by omega)
      obtain ⟨q, hq, hq2⟩ : ∃ q : Nat, Int.tmod (wrap64 cut) (wrap64 (((frames l).length : Int) + 1)) = (q : Int) ∧ q ≤ (frames l).length := by
        obtain ⟨v, hv⟩ : ∃ v : Nat, cut = (v : Int) := ⟨cut.toNat, by omega⟩
        refine ⟨v % ((frames l).length + 1), ?_, Nat.le_of_lt_succ (Nat.mod_lt _ (Nat.succ_pos _))⟩
        rw [hw, w64 (by omega) (by omega), hv]
        rfl
      refine Ev.ite_neg (by rw [hw]; omega) ?_
      rw [hq]
      obtain ⟨W, w1', w2, w3⟩ := whole_ex l q
      have := loop0 hB hq2 w1' w2 w3 l.length 0 (by omega)
      rw [Nat.min_eq_right (Nat.zero_le W), List.take_zero] at this
      exact this
    · rw [show plainB 0 l = false by simpa using hp]
      exact stop
  · rw [show smallM l = false by simpa using hs]
    exact Ev.ite_neg (by decide) stop
end Go.Proofs.YtmgliocboeifdaaDoor.Pure
