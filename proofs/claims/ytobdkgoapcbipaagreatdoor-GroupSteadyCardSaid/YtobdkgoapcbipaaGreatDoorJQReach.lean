/- What a search finds in a graph: the nodes that are reached; how deep it is. Plain Lean. -/
import Derived.RowKit
namespace Go.Proofs.YtobdkgoapcbipaaGreatDoor.Q
section
variable {α : Type}
/-- n is reached from s in one step or more. -/
inductive Reach (R : α → List α) : α → α → Prop
  | one {s n : α} : n ∈ R s → Reach R s n
  | more {s m n : α} : n ∈ R m → Reach R s m → Reach R s n
theorem Reach.trans {R : α → List α} {a b c : α} (h : Reach R a b) (h2 : Reach R b c) : Reach R a c := by
  induction h2 with
  | one e => exact .more e h
  | more e _ ih => exact .more e ih
theorem Reach.first {R : α → List α} {a c : α} (h : Reach R a c) : ∃ b ∈ R a, b = c ∨ Reach R b c := by
  induction h with
  | one e => exact ⟨_, e, .inl rfl⟩
  | more e _ ih =>
    obtain ⟨b, h1, h2⟩ := ih
    refine ⟨b, h1, .inr ?_⟩
    rcases h2 with rfl | h2
    · exact .one e
    · exact .more e h2
theorem Reach.least {R : α → List α} {a c : α} (h : Reach R a c) {P : α → Prop} (h0 : ∀ x ∈ R a, P x) (h1 : ∀ x, P x → ∀ y ∈ R x, P y) : P c := by
  induction h with
  | one e => exact h0 _ e
  | more e _ ih => exact h1 _ ih _ e
variable [DecidableEq α]
/-- For each of a list that is not found yet: it is found, and visited. -/
def eachG (v : List α → α → Option (List α)) : List α → List α → Option (List α)
  | m, [] => some m
  | m, n :: ns => if n ∈ m then eachG v m ns else (v (n :: m) n).bind fun m' => eachG v m' ns
def visitG (R : α → List α) : Nat → List α → α → Option (List α)
  | 0, _, _ => none
  | k + 1, m, s => eachG (visitG R k) m (R s)
def leftG (U m : List α) : Nat := (U.filter fun x => decide (x ∉ m)).length
theorem leftG_cons {U m : List α} {n : α} (hU : n ∈ U) (hm : n ∉ m) : leftG U (n :: m) < leftG U m := by
  unfold leftG
  have hs : (U.filter fun x => decide (x ∉ n :: m)) = (U.filter fun x => decide (x ∉ m)).filter (fun x => decide (x ≠ n)) := by
    rw [List.filter_filter]
    refine List.filter_congr (fun x _ => ?_)
    by_cases h1 : x = n <;> by_cases h2 : x ∈ m <;> simp [h1, h2]
  rw [hs]
  have hin : n ∈ U.filter fun x => decide (x ∉ m) := List.mem_filter.2 ⟨hU, by simpa using hm⟩
  generalize U.filter (fun x => decide (x ∉ m)) = L at hin
  induction L with
  | nil => cases hin
  | cons a L ih =>
    by_cases h : a = n
    · subst h
      rw [List.filter_cons_of_neg (by simp), List.length_cons]
      exact Nat.lt_succ_of_le (List.length_filter_le _ _)
    · rw [List.filter_cons_of_pos (by simpa using h), List.length_cons, List.length_cons]
      have h2 := ih (by rcases List.mem_cons.1 hin with e | e; exact absurd e.symm h; exact e)
      omega
/-- What a visit keeps. -/
structure VisitG (R : α → List α) (U : List α) (m m' : List α) (P : α → Prop) : Prop where
  sub : ∀ n ∈ m, n ∈ m'
  src : ∀ n ∈ m', n ∈ m ∨ P n
  closed : ∀ n ∈ m', n ∈ m ∨ ∀ x ∈ R n, x ∈ m'
  len : m'.length + leftG U m' ≤ m.length + leftG U m
  fits : ∀ n ∈ m', n ∈ m ∨ n ∈ U
  nodup : m.Nodup → m'.Nodup
  left : leftG U m' ≤ leftG U m
theorem leftG_le {U m m' : List α} (h : ∀ n ∈ m, n ∈ m') : leftG U m' ≤ leftG U m := by
  unfold leftG
  have : (U.filter fun x => decide (x ∉ m')) = (U.filter fun x => decide (x ∉ m)).filter (fun x => decide (x ∉ m')) := by
    rw [List.filter_filter]
    refine List.filter_congr (fun x _ => ?_)
    by_cases h1 : x ∈ m'
    · simp [h1]
    · have h2 : x ∉ m := fun e => h1 (h x e)
      simp [h1, h2]
  rw [this]
  exact List.length_filter_le _ _
theorem eachG_spec {R : α → List α} {U : List α} {v : List α → α → Option (List α)} {k : Nat}
    (hv : ∀ m s, leftG U m < k → ∃ m', v m s = some m' ∧ VisitG R U m m' (Reach R s) ∧ ∀ n ∈ R s, n ∈ m') :
    ∀ (ns m : List α), (∀ n ∈ ns, n ∈ U) → leftG U m ≤ k → ∃ m', eachG v m ns = some m' ∧ VisitG R U m m' (fun x => ∃ n ∈ ns, x = n ∨ Reach R n x) ∧ ∀ n ∈ ns, n ∈ m'
  | [], m, _, _ => ⟨m, rfl, ⟨fun _ h => h, fun _ h => .inl h, fun _ h => .inl h, Nat.le_refl _, fun _ h => .inl h, id, Nat.le_refl _⟩, fun _ h => by cases h⟩
  | n :: ns, m, hU, hk => by
    rw [eachG]
    by_cases h : n ∈ m
    · rw [if_pos h]
      obtain ⟨m', e, h1, h2⟩ := eachG_spec hv ns m (fun x hx => hU x (List.mem_cons_of_mem _ hx)) hk
      refine ⟨m', e, ⟨h1.sub, fun x hx => (h1.src x hx).imp id (fun ⟨y, hy, q⟩ => ⟨y, List.mem_cons_of_mem _ hy, q⟩), h1.closed, h1.len, h1.fits, h1.nodup, h1.left⟩, fun x hx => ?_⟩
      rcases List.mem_cons.1 hx with rfl | hx
      · exact h1.sub _ h
      · exact h2 x hx
    · rw [if_neg h]
      have hl := leftG_cons (hU n List.mem_cons_self) h
      obtain ⟨m1, e1, v1, c1⟩ := hv (n :: m) n (by omega)
      obtain ⟨m', e, h1, h2⟩ := eachG_spec hv ns m1 (fun x hx => hU x (List.mem_cons_of_mem _ hx)) (by have := v1.left; omega)
      have old : ∀ {x}, x ∈ n :: m → x = n ∨ x ∈ m := fun hx => List.mem_cons.1 hx
      refine ⟨m', by rw [e1]; exact e, ⟨fun x hx => h1.sub x (v1.sub x (List.mem_cons_of_mem _ hx)), fun x hx => ?_, fun x hx => ?_, ?_, fun x hx => ?_, fun hd => h1.nodup (v1.nodup (List.nodup_cons.2 ⟨h, hd⟩)), by have := h1.left; have := v1.left; omega⟩, fun x hx => ?_⟩
      · rcases h1.src x hx with hx | ⟨y, hy, q⟩
        · rcases v1.src x hx with hx | hx
          · rcases old hx with rfl | hx
            · exact .inr ⟨x, List.mem_cons_self, .inl rfl⟩
            · exact .inl hx
          · exact .inr ⟨n, List.mem_cons_self, .inr hx⟩
        · exact .inr ⟨y, List.mem_cons_of_mem _ hy, q⟩
      · rcases h1.closed x hx with hx | hx
        · rcases v1.closed x hx with hx2 | hx2
          · rcases old hx2 with rfl | hx2
            · exact .inr (fun y hy => h1.sub y (c1 y hy))
            · exact .inl hx2
          · exact .inr (fun y hy => h1.sub y (hx2 y hy))
        · exact .inr hx
      · have a := h1.len
        have b := v1.len
        rw [List.length_cons] at b
        omega
      · rcases h1.fits x hx with hx | hx
        · rcases v1.fits x hx with hx | hx
          · rcases old hx with rfl | hx
            · exact .inr (hU x List.mem_cons_self)
            · exact .inl hx
          · exact .inr hx
        · exact .inr hx
      · rcases List.mem_cons.1 hx with rfl | hx
        · exact h1.sub _ (v1.sub _ List.mem_cons_self)
        · exact h2 x hx
theorem visitG_spec {R : α → List α} {U : List α} (hR : ∀ x, ∀ n ∈ R x, n ∈ U) : ∀ (k : Nat) (m : List α) (s : α), leftG U m < k → ∃ m', visitG R k m s = some m' ∧ VisitG R U m m' (Reach R s) ∧ ∀ n ∈ R s, n ∈ m'
  | 0, m, s, h => absurd h (Nat.not_lt_zero _)
  | k + 1, m, s, h => by
    obtain ⟨m', e, h1, h2⟩ := eachG_spec (v := visitG R k) (k := k) (fun m s h => visitG_spec hR k m s h) (R s) m (hR s) (by omega)
    refine ⟨m', e, ⟨h1.sub, fun x hx => (h1.src x hx).imp id ?_, h1.closed, h1.len, h1.fits, h1.nodup, h1.left⟩, h2⟩
    rintro ⟨n, hn, rfl | q⟩
    · exact .one hn
    · exact (Reach.one hn).trans q
/-- From nothing found on: just what is reached is found. -/
theorem visitG_all {R : α → List α} {U : List α} (hR : ∀ x, ∀ n ∈ R x, n ∈ U) (k : Nat) (s : α) (hk : U.length < k) : ∃ m, visitG R k [] s = some m ∧ (∀ n, n ∈ m ↔ Reach R s n) ∧ m.Nodup ∧ m.length ≤ U.length ∧ ∀ n ∈ m, n ∈ U := by
  have hl : leftG U ([] : List α) ≤ U.length := List.length_filter_le _ _
  obtain ⟨m, e, h1, h2⟩ := visitG_spec hR k [] s (by omega)
  refine ⟨m, e, fun n => ⟨fun hn => (h1.src n hn).resolve_left (by simp), fun hn => hn.least h2 (fun x hx => (h1.closed x hx).resolve_left (by simp))⟩, h1.nodup List.nodup_nil, ?_, fun n hn => (h1.fits n hn).resolve_left (by simp)⟩
  have := h1.len
  rw [List.length_nil] at this
  omega
theorem eachG_mono {v v' : List α → α → Option (List α)} (hv : ∀ m s r, v m s = some r → v' m s = some r) : ∀ (ns m r : List α), eachG v m ns = some r → eachG v' m ns = some r
  | [], _, _, h => h
  | n :: ns, m, r, h => by
    rw [eachG] at h ⊢
    by_cases e : n ∈ m
    · rw [if_pos e] at h ⊢; exact eachG_mono hv ns m r h
    · rw [if_neg e] at h ⊢
      obtain ⟨m1, h1, h2⟩ := Option.bind_eq_some_iff.1 h
      rw [hv _ _ _ h1]
      exact eachG_mono hv ns m1 r h2
theorem visitG_mono {R : α → List α} : ∀ (k : Nat) (m : List α) (s : α) (r : List α), visitG R k m s = some r → visitG R (k + 1) m s = some r
  | 0, _, _, _, h => by cases h
  | k + 1, m, s, r, h => eachG_mono (fun m s r h => visitG_mono k m s r h) (R s) m r h
end
section
variable {α : Type}
/-! ### Steps that widen a set until it is closed -/
/-- dom: the nodes from which anything leads. -/
theorem steps_closed {R : α → List α} {dom : List α} (hd : ∀ x, R x ≠ [] → x ∈ dom) {S : Nat → α → Prop} [∀ i x, Decidable (S i x)] (hS : ∀ i x, S (i + 1) x ↔ S i x ∨ ∃ n, S i n ∧ x ∈ R n) :
    ∀ i, (∀ n, S i n → ∀ x ∈ R n, S i x) ∨ i + 1 ≤ (dom.filter fun x => decide (S i x)).length
  | 0 => by
    rcases Classical.em (∀ n, S 0 n → ∀ x ∈ R n, S 0 x) with h | h
    · exact .inl h
    · refine .inr ?_
      obtain ⟨n, h⟩ := Classical.not_forall.1 h
      obtain ⟨hn, h⟩ := Classical.not_imp.1 h
      obtain ⟨x, h⟩ := Classical.not_forall.1 h
      obtain ⟨hx, _⟩ := Classical.not_imp.1 h
      exact List.length_pos_of_mem (List.mem_filter.2 ⟨hd n (List.ne_nil_of_mem hx), decide_eq_true hn⟩)
  | i + 1 => by
    rcases Classical.em (∀ n, S (i + 1) n → ∀ x ∈ R n, S (i + 1) x) with h | h
    · exact .inl h
    · refine .inr ?_
      have h0 : ¬ ∀ n, S i n → ∀ x ∈ R n, S i x := fun hc => h (fun n hn x hx => by
        rcases (hS i n).1 hn with h1 | ⟨y, h1, h2⟩
        · exact (hS i x).2 (.inl (hc n h1 x hx))
        · exact (hS i x).2 (.inl (hc n (hc y h1 n h2) x hx)))
      have hc := (steps_closed hd hS i).resolve_left h0
      obtain ⟨n, h⟩ := Classical.not_forall.1 h
      obtain ⟨hn, h⟩ := Classical.not_imp.1 h
      obtain ⟨x, h⟩ := Classical.not_forall.1 h
      obtain ⟨hx, hx2⟩ := Classical.not_imp.1 h
      have hni : ¬ S i n := fun e => hx2 ((hS i x).2 (.inr ⟨n, e, hx⟩))
      have hnd := hd n (List.ne_nil_of_mem hx)
      have hsub : (dom.filter fun y => decide (S i y)) = (dom.filter fun y => decide (S (i + 1) y)).filter fun y => decide (S i y) := by
        rw [List.filter_filter]
        refine List.filter_congr (fun y _ => ?_)
        by_cases hy : S i y
        · rw [decide_eq_true hy, decide_eq_true ((hS i y).2 (.inl hy))]; rfl
        · rw [decide_eq_false hy]; rfl
      rw [hsub] at hc
      have hin : n ∈ dom.filter fun y => decide (S (i + 1) y) := List.mem_filter.2 ⟨hnd, decide_eq_true hn⟩
      generalize (dom.filter fun y => decide (S (i + 1) y)) = L at hc hin
      have : (L.filter fun y => decide (S i y)).length < L.length := by
        refine Nat.lt_of_le_of_ne (List.length_filter_le _ _) (fun e => ?_)
        have := List.length_filter_eq_length_iff.1 e n hin
        exact hni (of_decide_eq_true this)
      omega
/-- What is there after as many steps as there are nodes: just what is reached. -/
theorem steps_all {R : α → List α} {dom : List α} (hd : ∀ x, R x ≠ [] → x ∈ dom) {S : Nat → α → Prop} {s : α} (h0 : ∀ x, S 0 x ↔ x ∈ R s) (hS : ∀ i x, S (i + 1) x ↔ S i x ∨ ∃ n, S i n ∧ x ∈ R n) (x : α) : S dom.length x ↔ Reach R s x := by
  constructor
  · have : ∀ i x, S i x → Reach R s x := by
      intro i
      induction i with
      | zero => exact fun x h => .one ((h0 x).1 h)
      | succ i ih =>
        intro x h
        rcases (hS i x).1 h with h | ⟨n, h1, h2⟩
        · exact ih x h
        · exact .more h2 (ih n h1)
    exact this _ x
  · intro h
    have hm : ∀ i y, S 0 y → S i y := fun i y hy => by
      induction i with
      | zero => exact hy
      | succ i ih => exact (hS i y).2 (.inl ih)
    have hinst : ∀ i x, Decidable (S i x) := fun _ _ => Classical.propDecidable _
    have hc : ∀ n, S dom.length n → ∀ x ∈ R n, S dom.length x := by
      refine (steps_closed hd hS dom.length).resolve_right (fun e => ?_)
      have := List.length_filter_le (fun x => decide (S dom.length x)) dom
      omega
    exact h.least (fun y hy => hm _ y ((h0 y).2 hy)) hc
/-! ### Depth -/
/-- The depth of a node, up to k levels: 0 where there is none. -/
def hgtG (R : α → List α) (dom : α → Bool) : Nat → α → Nat
  | 0, _ => 0
  | k + 1, s => if dom s then ((R s).map (hgtG R dom k)).foldl max 0 + 1 else 0
open Classical in
noncomputable def rankG (R : α → List α) (U : List α) (s : α) : Nat := (U.filter fun x => decide (Reach R s x)).length
theorem rankG_lt {R : α → List α} {U : List α} (hR : ∀ x, ∀ n ∈ R x, n ∈ U) (ha : ∀ s, ¬ Reach R s s) {s n : α} (h : n ∈ R s) : rankG R U n < rankG R U s := by
  classical
  unfold rankG
  have hsub : (U.filter fun x => decide (Reach R n x)) = (U.filter fun x => decide (Reach R s x)).filter fun x => decide (Reach R n x) := by
    rw [List.filter_filter]
    refine List.filter_congr (fun y _ => ?_)
    by_cases hy : Reach R n y
    · simp [hy, (Reach.one h).trans hy]
    · simp [hy]
  rw [hsub]
  refine Nat.lt_of_le_of_ne (List.length_filter_le _ _) (fun e => ?_)
  have := List.length_filter_eq_length_iff.1 e n (List.mem_filter.2 ⟨hR s n h, decide_eq_true (.one h)⟩)
  exact ha n (of_decide_eq_true this)
theorem rankG_le {R : α → List α} {U : List α} (s : α) : rankG R U s ≤ U.length := List.length_filter_le _ _
theorem hgtG_more {R : α → List α} {dom : α → Bool} {U : List α} (hR : ∀ x, ∀ n ∈ R x, n ∈ U) (ha : ∀ s, ¬ Reach R s s) : ∀ (k j : Nat) (s : α), rankG R U s < k → rankG R U s < j → hgtG R dom k s = hgtG R dom j s
  | 0, _, _, h, _ => absurd h (Nat.not_lt_zero _)
  | _ + 1, 0, _, _, h => absurd h (Nat.not_lt_zero _)
  | k + 1, j + 1, s, h1, h2 => by
    rw [hgtG, hgtG]
    by_cases e : dom s = true
    · rw [if_pos e, if_pos e]
      rw [List.map_congr_left (fun n hn => hgtG_more hR ha k j n (by have := rankG_lt hR ha hn; omega) (by have := rankG_lt hR ha hn; omega))]
    · rw [if_neg e, if_neg e]
/-- The depth of a node of a graph without a loop. -/
def hgt (R : α → List α) (dom : α → Bool) (U : List α) (s : α) : Nat := hgtG R dom (U.length + 1) s
theorem hgt_eq {R : α → List α} {dom : α → Bool} {U : List α} (hR : ∀ x, ∀ n ∈ R x, n ∈ U) (ha : ∀ s, ¬ Reach R s s) (s : α) : hgt R dom U s = if dom s then ((R s).map (hgt R dom U)).foldl max 0 + 1 else 0 := by
  rw [hgt, hgtG]
  by_cases e : dom s = true
  · rw [if_pos e, if_pos e]
    rw [List.map_congr_left (fun n hn => hgtG_more (dom := dom) hR ha U.length (U.length + 1) n (by have := rankG_lt hR ha hn; have := rankG_le (R := R) (U := U) s; omega) (by have := rankG_le (R := R) (U := U) n; omega))]
    rfl
  · rw [if_neg e, if_neg e]
end
end Go.Proofs.YtobdkgoapcbipaaGreatDoor.Q
