/- Lists of files in order: Set, blob, there, and the comparisons. -/
import Derived.Test.YtpnhamfodjfacaaDoorNQRight25
import Derived.Test.YtpnhamfodjfacaaDoorNx7
import Derived.Test.YtpnhamfodjfacaaDoorNx5
namespace Go.Proofs.YtpnhamfodjfacaaDoor.Q
open Go.RowKit Go.Proofs.YtpnhamfodjfacaaDoorW.PrintWords Go.Proofs.YtpnhamfodjfacaaDoorW.PrintLast Go.Proofs.YtpnhamfodjfacaaDoorW.PrintMore Go.Proofs.YtpnhamfodjfacaaDoor.N
set_option linter.unusedVariables false
set_option linter.unusedSimpArgs false
abbrev SF := S45
abbrev SC := S47
theorem rdC_nat (l : List SC) (i : Nat) (h : i < l.length) : rd_T47 l (i : Int) = l[i] := by
  simp [rd_T47, List.getD_eq_getElem?_getD, List.getElem?_eq_getElem h]
theorem w1 (i : Nat) (h : i ≤ 1000000000) : wrap64 ((i : Int) + 1) = ((i + 1 : Nat) : Int) := by rw [w64 (by omega) (by omega)]; rfl
instance decSF : DecidableEq SF := fun a b => if h : a.f0 = b.f0 ∧ a.f1 = b.f1 then isTrue (by obtain ⟨a0, a1⟩ := a; obtain ⟨b0, b1⟩ := b; obtain ⟨rfl, rfl⟩ := h; rfl) else isFalse (fun e => h (by rw [e]; exact ⟨rfl, rfl⟩))
def blobL : FS → ByteArray → Int
  | [], _ => 0
  | f :: l, s => if f.f0 = s then f.f1 else blobL l s
def thereL (l : FS) (s : ByteArray) : Bool := l.any fun f => decide (f.f0 = s)
theorem Get_is (l : FS) (s : ByteArray) (hl : l.length ≤ 1000000) : Ev (fun k => tree_Get.f k l s) (blobL l s, thereL l s) := by
  have key : ∀ d (i : Nat), i + d = l.length → Ev (fun k => tree_Get.l0 k s l (l.length : Int) (i : Int)) (blobL (l.drop i) s, thereL (l.drop i) s) := by
    intro d
    induction d with
    | zero =>
      intro i hi
      rw [List.drop_of_length_le (by omega)]
      refine Ev.step (f := fun _ => some (0, false)) (fun k => ?_) (Ev.now _)
      rw [tree_Get.l0, if_neg (by omega)]
    | succ d ih =>
      intro i hi
      have hlt : i < l.length := by omega
      rw [drop_cons l i hlt, thereL, List.any_cons, blobL]
      refine Ev.step (fun k => by rw [tree_Get.l0, if_pos (show (i : Int) < (l.length : Int) by omega), if_pos (by omega), if_pos (show (i : Int) < (l.length : Int) by omega), rdF_nat l i hlt, w1 i (by omega)]) ?_
      by_cases h : l[i].f0 = s
      · rw [decide_eq_true h, Bool.true_or, if_pos h]
        exact Ev.ite_pos (toList_eq_iff.2 h) (Ev.now _)
      · rw [decide_eq_false h, Bool.false_or, if_neg h]
        exact Ev.ite_neg (fun e => h (toList_eq_iff.1 e)) (ih (i + 1) (by omega))
  exact key l.length 0 (by omega)
theorem blob_there {l : FS} (h : ∀ f ∈ l, f.f1 ≠ 0) (s : ByteArray) : (blobL l s != 0) = thereL l s := by
  induction l with
  | nil => rfl
  | cons f l ih =>
    rw [blobL, thereL, List.any_cons]
    by_cases e : f.f0 = s
    · rw [if_pos e, decide_eq_true e, Bool.true_or]
      simpa using h f List.mem_cons_self
    · rw [if_neg e, decide_eq_false e, Bool.false_or]
      exact ih (fun g hg => h g (List.mem_cons_of_mem _ hg))
/-! ### The comparisons -/
theorem Files_is (l m : FS) (hl : l.length ≤ 1000000) : Ev (fun k => codesearchref25_Files.f k l m) (decide (l = m)) := by
  by_cases hlen : (l.length : Int) = (m.length : Int)
  · have key : ∀ d (i : Nat), i + d = l.length → Ev (fun k => codesearchref25_Files.l0 k l m (i : Int)) (decide (l.drop i = m.drop i)) := by
      intro d
      induction d with
      | zero =>
        intro i hi
        rw [List.drop_of_length_le (by omega), List.drop_of_length_le (by omega)]
        refine Ev.step (f := fun _ => some true) (fun k => ?_) (Ev.now _)
        rw [codesearchref25_Files.l0, if_neg (by omega)]
      | succ d ih =>
        intro i hi
        have hlt : i < l.length := by omega
        have hlt2 : i < m.length := by omega
        rw [drop_cons l i hlt, drop_cons m i hlt2]
        refine Ev.step (fun k => by rw [codesearchref25_Files.l0, if_pos (show (i : Int) < (l.length : Int) by omega), if_pos (by omega), if_pos (show (i : Int) < (m.length : Int) by omega), rdF_nat l i hlt, rdF_nat m i hlt2, w1 i (by omega)]) ?_
        by_cases h : l[i] = m[i]
        · rw [decide_eq_decide.2 (show l[i] :: l.drop (i + 1) = m[i] :: m.drop (i + 1) ↔ l.drop (i + 1) = m.drop (i + 1) by rw [List.cons.injEq]; exact ⟨fun e => e.2, fun e => ⟨h, e⟩⟩)]
          refine Ev.ite_neg ?_ (ih (i + 1) (by omega))
          rw [h]; simp
        · rw [decide_eq_false (show ¬ l[i] :: l.drop (i + 1) = m[i] :: m.drop (i + 1) by rw [List.cons.injEq]; exact fun e => h e.1)]
          refine Ev.ite_pos ?_ (Ev.now _)
          have h2 : ¬ (l[i].f0 = m[i].f0 ∧ l[i].f1 = m[i].f1) := fun e => h (by
            generalize l[i] = a at e; generalize m[i] = b at e
            obtain ⟨a0, a1⟩ := a; obtain ⟨b0, b1⟩ := b
            obtain ⟨rfl, rfl⟩ := e; rfl)
          by_cases e0 : l[i].f0 = m[i].f0
          · have e1 : ¬ l[i].f1 = m[i].f1 := fun e => h2 ⟨e0, e⟩
            simp [e1]
          · have e1 : ¬ l[i].f0.toList = m[i].f0.toList := fun e => e0 (toList_eq_iff.1 e)
            simp [e1]
    refine Ev.congr (fun k => by rw [codesearchref25_Files.f, if_pos hlen]; rfl) (key l.length 0 (by omega))
  · rw [decide_eq_false (fun e => hlen (by rw [e]))]
    refine Ev.congr (fun k => ?_) (Ev.now _)
    rw [codesearchref25_Files.f, if_neg hlen]
theorem Changes_self (l : List SC) (hl : l.length ≤ 1000000) : Ev (fun k => codesearchref25_Changes.f k l l) true := by
  have key : ∀ d (i : Nat), i + d = l.length → Ev (fun k => codesearchref25_Changes.l0 k l l (i : Int)) true := by
    intro d
    induction d with
    | zero =>
      intro i hi
      refine Ev.step (f := fun _ => some true) (fun k => ?_) (Ev.now _)
      rw [codesearchref25_Changes.l0, if_neg (by omega)]
    | succ d ih =>
      intro i hi
      have hlt : i < l.length := by omega
      refine Ev.step (fun k => by rw [codesearchref25_Changes.l0, if_pos (show (i : Int) < (l.length : Int) by omega), if_pos (by omega), if_pos (show (i : Int) < (l.length : Int) by omega), w1 i (by omega)]) ?_
      exact Ev.ite_neg (by simp) (ih (i + 1) (by omega))
  exact Ev.congr (fun k => by rw [codesearchref25_Changes.f, if_pos rfl]; rfl) (key l.length 0 (by omega))
theorem Strings_self (l : List ByteArray) (hl : l.length ≤ 1000000) : Ev (fun k => codesearchref01_Strings.f k l l) true := by
  have key : ∀ d (i : Nat), i + d = l.length → Ev (fun k => codesearchref01_Strings.l0 k l l (i : Int)) true := by
    intro d
    induction d with
    | zero =>
      intro i hi
      refine Ev.step (f := fun _ => some true) (fun k => ?_) (Ev.now _)
      rw [codesearchref01_Strings.l0, if_neg (by omega)]
    | succ d ih =>
      intro i hi
      have hlt : i < l.length := by omega
      refine Ev.step (fun k => by rw [codesearchref01_Strings.l0, if_pos (show (i : Int) < (l.length : Int) by omega), if_pos (by omega), if_pos (show (i : Int) < (l.length : Int) by omega), w1 i (by omega)]) ?_
      exact Ev.ite_pos rfl (ih (i + 1) (by omega))
  exact Ev.congr (fun k => by rw [codesearchref01_Strings.f, if_pos rfl]; rfl) (key l.length 0 (by omega))
/-! ### Set -/
def setGo (p : ByteArray) (b : Int) : FS → Bool → FS
  | [], inn => if inn = true then [] else [⟨p, b⟩]
  | f :: l, inn => if inn = false ∧ ¬ bl f.f0 < bl p then ⟨p, b⟩ :: (if f.f0 = p then setGo p b l true else f :: setGo p b l true) else if f.f0 = p then setGo p b l inn else f :: setGo p b l inn
def setM (l : FS) (p : ByteArray) (b : Int) : FS := setGo p b l (b == 0)
theorem setGo_true (p : ByteArray) (b : Int) : ∀ l : FS, setGo p b l true = l.filter fun f => decide (f.f0 ≠ p)
  | [] => rfl
  | f :: l => by
    rw [setGo, if_neg (fun h => by cases h.1), setGo_true p b l]
    by_cases e : f.f0 = p
    · rw [if_pos e, List.filter_cons_of_neg (by simpa using e)]
    · rw [if_neg e, List.filter_cons_of_pos (by simpa using e)]
theorem mem_setGo (p : ByteArray) (b : Int) (x : SF) : ∀ l : FS, x ∈ setGo p b l false ↔ x = ⟨p, b⟩ ∨ (x ∈ l ∧ x.f0 ≠ p)
  | [] => by rw [setGo, if_neg (by decide)]; simp
  | f :: l => by
    rw [setGo]
    by_cases h : bl f.f0 < bl p
    · have hne : f.f0 ≠ p := fun e => by rw [e] at h; exact List.lt_irrefl _ h
      rw [if_neg (fun e => e.2 h), if_neg hne, List.mem_cons, List.mem_cons, mem_setGo p b x l]
      constructor
      · rintro (rfl | h1 | ⟨h1, h2⟩)
        · exact .inr ⟨.inl rfl, hne⟩
        · exact .inl h1
        · exact .inr ⟨.inr h1, h2⟩
      · rintro (h1 | ⟨h1 | h1, h2⟩)
        · exact .inr (.inl h1)
        · exact .inl h1
        · exact .inr (.inr ⟨h1, h2⟩)
    · rw [if_pos ⟨rfl, h⟩, setGo_true, List.mem_cons]
      by_cases e : f.f0 = p
      · rw [if_pos e, List.mem_filter, List.mem_cons]
        constructor
        · rintro (h1 | ⟨h1, h2⟩)
          · exact .inl h1
          · exact .inr ⟨.inr h1, of_decide_eq_true h2⟩
        · rintro (h1 | ⟨h1 | h1, h2⟩)
          · exact .inl h1
          · rw [h1] at h2; exact absurd e h2
          · exact .inr ⟨h1, decide_eq_true h2⟩
      · rw [if_neg e, List.mem_cons, List.mem_filter, List.mem_cons]
        constructor
        · rintro (h1 | rfl | ⟨h1, h2⟩)
          · exact .inl h1
          · exact .inr ⟨.inl rfl, e⟩
          · exact .inr ⟨.inr h1, of_decide_eq_true h2⟩
        · rintro (h1 | ⟨h1 | h1, h2⟩)
          · exact .inl h1
          · exact .inr (.inl h1)
          · exact .inr (.inr ⟨h1, decide_eq_true h2⟩)
theorem lt_of_not {a b : ByteArray} (h : ¬ bl a < bl b) (hne : a ≠ b) : bl b < bl a := lt_of_le_ne (List.not_lt.1 h) (fun e => hne (bl_inj e).symm)
theorem setGo_inc (p : ByteArray) (b : Int) : ∀ {l : FS}, IncF l → IncF (setGo p b l false)
  | [], _ => by rw [setGo, if_neg (by decide)]; exact List.pairwise_singleton _ _
  | f :: l, h => by
    have h1 := List.pairwise_cons.1 h
    rw [setGo]
    by_cases e : bl f.f0 < bl p
    · have hne : f.f0 ≠ p := fun e2 => by rw [e2] at e; exact List.lt_irrefl _ e
      rw [if_neg (fun e2 => e2.2 e), if_neg hne]
      refine List.pairwise_cons.2 ⟨fun x hx => ?_, setGo_inc p b h1.2⟩
      rcases (mem_setGo p b x l).1 hx with rfl | ⟨h2, _⟩
      · exact e
      · exact h1.1 x h2
    · rw [if_pos ⟨rfl, e⟩, setGo_true]
      have hall : ∀ x ∈ f :: l, x.f0 ≠ p → bl p < bl x.f0 := by
        intro x hx hne
        rcases List.mem_cons.1 hx with rfl | hx
        · exact lt_of_not e hne
        · by_cases e2 : f.f0 = p
          · rw [← e2]; exact h1.1 x hx
          · exact List.lt_trans (lt_of_not e e2) (h1.1 x hx)
      have hf : IncF (l.filter fun f => decide (f.f0 ≠ p)) := List.Pairwise.filter _ h1.2
      by_cases e2 : f.f0 = p
      · rw [if_pos e2]
        refine List.pairwise_cons.2 ⟨fun x hx => ?_, hf⟩
        rw [List.mem_filter] at hx
        exact hall x (List.mem_cons_of_mem _ hx.1) (of_decide_eq_true hx.2)
      · rw [if_neg e2]
        refine List.pairwise_cons.2 ⟨fun x hx => ?_, List.pairwise_cons.2 ⟨fun x hx => ?_, hf⟩⟩
        · rcases List.mem_cons.1 hx with rfl | hx
          · exact hall x List.mem_cons_self e2
          · rw [List.mem_filter] at hx
            exact hall x (List.mem_cons_of_mem _ hx.1) (of_decide_eq_true hx.2)
        · rw [List.mem_filter] at hx
          exact h1.1 x hx.1
theorem mem_setM {l : FS} {p : ByteArray} {b : Int} (x : SF) : x ∈ setM l p b ↔ (b ≠ 0 ∧ x = ⟨p, b⟩) ∨ (x ∈ l ∧ x.f0 ≠ p) := by
  unfold setM
  by_cases h : b = 0
  · rw [beq_iff_eq.2 h, setGo_true, List.mem_filter]
    constructor
    · rintro ⟨h1, h2⟩; exact .inr ⟨h1, of_decide_eq_true h2⟩
    · rintro (⟨h1, _⟩ | ⟨h1, h2⟩)
      · exact absurd h h1
      · exact ⟨h1, decide_eq_true h2⟩
  · rw [beq_eq_false_iff_ne.2 h, mem_setGo]
    constructor
    · rintro (h1 | h1)
      · exact .inl ⟨h, h1⟩
      · exact .inr h1
    · rintro (⟨_, h1⟩ | h1)
      · exact .inl h1
      · exact .inr h1
theorem setM_inc {l : FS} (h : IncF l) (p : ByteArray) (b : Int) : IncF (setM l p b) := by
  unfold setM
  by_cases e : b = 0
  · rw [beq_iff_eq.2 e, setGo_true]; exact List.Pairwise.filter _ h
  · rw [beq_eq_false_iff_ne.2 e]; exact setGo_inc p b h
theorem setGo_len (p : ByteArray) (b : Int) : ∀ (l : FS) (inn : Bool), (setGo p b l inn).length ≤ l.length + 1
  | [], inn => by rw [setGo]; cases inn <;> simp
  | f :: l, inn => by
    rw [setGo]
    have h1 := setGo_len p b l inn
    have h2 : (setGo p b l true).length ≤ l.length := by rw [setGo_true]; exact List.length_filter_le _ _
    by_cases h : inn = false ∧ ¬ bl f.f0 < bl p
    · rw [if_pos h]
      by_cases e : f.f0 = p
      · rw [if_pos e]; simp; omega
      · rw [if_neg e]; simp; omega
    · rw [if_neg h]
      by_cases e : f.f0 = p
      · rw [if_pos e]; simp; omega
      · rw [if_neg e]; simp; omega
theorem setM_len (l : FS) (p : ByteArray) (b : Int) : (setM l p b).length ≤ l.length + 1 := setGo_len p b l _
/-- Lists in order with the same files are the same. -/
theorem incF_ext : ∀ {l m : FS}, IncF l → IncF m → (∀ x, x ∈ l ↔ x ∈ m) → l = m
  | [], [], _, _, _ => rfl
  | [], b :: m, _, _, h => absurd ((h b).2 (by simp)) (by simp)
  | a :: l, [], _, _, h => absurd ((h a).1 (by simp)) (by simp)
  | a :: l, b :: m, hl, hm, h => by
    have hl1 := List.pairwise_cons.1 hl
    have hm1 := List.pairwise_cons.1 hm
    have hab : a = b := by
      rcases List.mem_cons.1 ((h a).1 (by simp)) with e | e
      · exact e
      · rcases List.mem_cons.1 ((h b).2 (by simp)) with e2 | e2
        · exact e2.symm
        · exact absurd (List.lt_trans (hm1.1 a e) (hl1.1 b e2)) (List.lt_irrefl _)
    subst hab
    rw [incF_ext hl1.2 hm1.2 (fun x => ?_)]
    constructor
    · intro hx
      rcases List.mem_cons.1 ((h x).1 (List.mem_cons_of_mem _ hx)) with e | e
      · subst e; exact absurd (hl1.1 x hx) (List.lt_irrefl _)
      · exact e
    · intro hx
      rcases List.mem_cons.1 ((h x).2 (List.mem_cons_of_mem _ hx)) with e | e
      · subst e; exact absurd (hm1.1 x hx) (List.lt_irrefl _)
      · exact e
theorem inc_of {l : FS} (h : IncF l) : Inc (l.map (·.f0)) := List.pairwise_map.2 h
theorem inc_same {l : FS} (h : IncF l) {x y : SF} (hx : x ∈ l) (hy : y ∈ l) (e : x.f0 = y.f0) : x = y := by
  induction l with
  | nil => cases hx
  | cons a l ih =>
    have h1 := List.pairwise_cons.1 h
    rcases List.mem_cons.1 hx with hx' | hx' <;> rcases List.mem_cons.1 hy with hy' | hy'
    · rw [hx', hy']
    · have := h1.1 y hy'; rw [← hx', e] at this; exact absurd this (List.lt_irrefl _)
    · have := h1.1 x hx'; rw [← hy', e] at this; exact absurd this (List.lt_irrefl _)
    · exact ih h1.2 hx' hy'
/-! ### The map of a list in order -/
theorem blobL_none {l : FS} {s : ByteArray} (h : ∀ f ∈ l, f.f0 ≠ s) : blobL l s = 0 := by
  induction l with
  | nil => rfl
  | cons f l ih => rw [blobL, if_neg (h f List.mem_cons_self), ih (fun g hg => h g (List.mem_cons_of_mem _ hg))]
theorem blobL_mem {l : FS} (hi : IncF l) {f : SF} (hf : f ∈ l) : blobL l f.f0 = f.f1 := by
  induction l with
  | nil => cases hf
  | cons a l ih =>
    have h1 := List.pairwise_cons.1 hi
    rw [blobL]
    rcases List.mem_cons.1 hf with rfl | hf
    · rw [if_pos rfl]
    · rw [if_neg (fun e => by have := h1.1 f hf; rw [e] at this; exact List.lt_irrefl _ this)]
      exact ih h1.2 hf
theorem blobL_mem_iff {l : FS} (hi : IncF l) (hz : ∀ f ∈ l, f.f1 ≠ 0) {s : ByteArray} {v : Int} (hv : v ≠ 0) : blobL l s = v ↔ ⟨s, v⟩ ∈ l := by
  constructor
  · intro h
    rcases Classical.em (∃ f ∈ l, f.f0 = s) with ⟨f, hf, rfl⟩ | hn
    · rw [blobL_mem hi hf] at h
      rw [← h]; exact hf
    · rw [blobL_none (fun f hf e => hn ⟨f, hf, e⟩)] at h
      exact absurd h.symm hv
  · intro h; exact blobL_mem hi h
theorem mget_inc {l : FS} (hi : IncF l) (s : ByteArray) : (∀ f ∈ l, f.f0 = s → mget (contsM l) s = some f.f1) ∧ ((∀ f ∈ l, f.f0 ≠ s) → mget (contsM l) s = none) := by
  have key : ∀ (l : FS) (m : MP), IncF l → (∀ f ∈ l, f.f0 = s → mget (l.foldl (fun m x => mput m x.f0 x.f1) m) s = some f.f1) ∧ ((∀ f ∈ l, f.f0 ≠ s) → mget (l.foldl (fun m x => mput m x.f0 x.f1) m) s = mget m s) := by
    intro l
    induction l with
    | nil => intro m _; exact ⟨fun f hf => (by cases hf), fun _ => rfl⟩
    | cons a l ih =>
      intro m hi
      have h1 := List.pairwise_cons.1 hi
      obtain ⟨i1, i2⟩ := ih (mput m a.f0 a.f1) h1.2
      rw [List.foldl_cons]
      refine ⟨fun f hf e => ?_, fun hn => ?_⟩
      · rcases List.mem_cons.1 hf with rfl | hf
        · rw [i2 (fun g hg e2 => by have := h1.1 g hg; rw [e, e2] at this; exact List.lt_irrefl _ this), mget_put, if_pos e]
        · exact i1 f hf e
      · rw [i2 (fun g hg => hn g (List.mem_cons_of_mem _ hg)), mget_put, if_neg (hn a List.mem_cons_self)]
  exact key l [] hi
theorem val_blob {l : FS} (hi : IncF l) (s : ByteArray) : (mget (contsM l) s).getD 0 = blobL l s := by
  obtain ⟨h1, h2⟩ := mget_inc hi s
  rcases Classical.em (∃ f ∈ l, f.f0 = s) with ⟨f, hf, e⟩ | hn
  · rw [h1 f hf e, ← e, blobL_mem hi hf]; rfl
  · rw [h2 (fun f hf e => hn ⟨f, hf, e⟩), blobL_none (fun f hf e => hn ⟨f, hf, e⟩)]; rfl
end Go.Proofs.YtpnhamfodjfacaaDoor.Q
