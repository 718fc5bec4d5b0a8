/- Apply: the program's map, and the list in order that it stands for. -/
import Derived.Test.YtpnhamfodjfacaaDoorKQAlive25
import Derived.Test.YtpnhamfodjfacaaDoorKx6
namespace Go.Proofs.YtpnhamfodjfacaaDoor.Q
open Go.RowKit Go.Proofs.YtpnhamfodjfacaaDoorW.PrintWords Go.Proofs.YtpnhamfodjfacaaDoorW.PrintLast Go.Proofs.YtpnhamfodjfacaaDoorW.PrintMore Go.Proofs.YtpnhamfodjfacaaDoor.K
set_option linter.unusedVariables false
set_option linter.unusedSimpArgs false
/-- The list in order that a map stands for. -/
structure RepL (r : FS) (m : MP) : Prop where
  inc : IncF r
  nz : ∀ f ∈ r, f.f1 ≠ 0
  at_ : ∀ s v, (⟨s, v⟩ : SF) ∈ r ↔ mget m s = some v
theorem mem_eta {r : FS} {f : SF} (h : f ∈ r) : (⟨f.f0, f.f1⟩ : SF) ∈ r := h
theorem RepL.init {l : FS} (h : Tree l) : RepL l (contsM l) := by
  refine ⟨h.inc, fun f hf => by have := h.blob f hf; omega, fun s v => ?_⟩
  obtain ⟨h1, h2⟩ := mget_inc h.inc s
  constructor
  · intro hm; exact h1 _ hm rfl
  · intro e
    rcases Classical.em (∃ f ∈ l, f.f0 = s) with ⟨f, hf, rfl⟩ | hn
    · rw [h1 f hf rfl] at e
      obtain rfl := Option.some.inj e
      exact hf
    · rw [h2 (fun f hf e2 => hn ⟨f, hf, e2⟩)] at e; cases e
theorem there_iff {r : FS} {s : ByteArray} : thereL r s = true ↔ ∃ f ∈ r, f.f0 = s := by
  rw [thereL, List.any_eq_true]
  constructor
  · rintro ⟨f, hf, e⟩; exact ⟨f, hf, of_decide_eq_true e⟩
  · rintro ⟨f, hf, e⟩; exact ⟨f, hf, decide_eq_true e⟩
theorem RepL.there {r : FS} {m : MP} (h : RepL r m) (s : ByteArray) : (mget m s).isSome = thereL r s := by
  rw [Bool.eq_iff_iff, there_iff]
  constructor
  · intro e
    obtain ⟨v, hv⟩ := Option.isSome_iff_exists.1 e
    exact ⟨⟨s, v⟩, (h.at_ s v).2 hv, rfl⟩
  · rintro ⟨f, hf, rfl⟩
    rw [(h.at_ f.f0 f.f1).1 hf]; rfl
theorem RepL.put {r : FS} {m : MP} (h : RepL r m) (s : ByteArray) (v : Int) (hv : v ≠ 0) : RepL (setM r s v) (mput m s v) := by
  refine ⟨setM_inc h.inc _ _, fun f hf => ?_, fun t x => ?_⟩
  · rcases (mem_setM f).1 hf with ⟨_, rfl⟩ | ⟨h1, _⟩
    · exact hv
    · exact h.nz f h1
  · rw [mem_setM, mget_put]
    by_cases e : s = t
    · subst e
      rw [if_pos rfl]
      constructor
      · rintro (⟨_, e⟩ | ⟨_, e⟩)
        · rw [(S45.mk.inj e).2]
        · exact absurd rfl e
      · intro e; rw [Option.some.inj e]; exact .inl ⟨by rw [← Option.some.inj e]; exact hv, rfl⟩
    · rw [if_neg e, ← h.at_ t x]
      constructor
      · rintro (⟨_, e2⟩ | ⟨h1, _⟩)
        · exact absurd (S45.mk.inj e2).1.symm e
        · exact h1
      · intro h1; exact .inr ⟨h1, fun e2 => e e2.symm⟩
theorem RepL.del {r : FS} {m : MP} (h : RepL r m) (s : ByteArray) : RepL (setM r s 0) (mdel m s) := by
  refine ⟨setM_inc h.inc _ _, fun f hf => ?_, fun t x => ?_⟩
  · rcases (mem_setM f).1 hf with ⟨e, _⟩ | ⟨h1, _⟩
    · exact absurd rfl e
    · exact h.nz f h1
  · rw [mem_setM, mget_del]
    by_cases e : s = t
    · subst e
      rw [if_pos rfl]
      constructor
      · rintro (⟨e, _⟩ | ⟨_, e⟩) <;> exact absurd rfl e
      · intro e; cases e
    · rw [if_neg e, ← h.at_ t x]
      constructor
      · rintro (⟨e2, _⟩ | ⟨h1, _⟩)
        · exact absurd rfl e2
        · exact h1
      · intro h1; exact .inr ⟨h1, fun e2 => e e2.symm⟩
theorem RepL.files {r : FS} {m : MP} (h : RepL r m) : filesM m = r := by
  refine incF_ext ?_ h.inc (fun x => ?_)
  · rw [filesM, IncF, List.pairwise_map]
    exact (pathsM_inc [m]).filter _
  · rw [filesM, List.mem_map]
    constructor
    · rintro ⟨s, hs, rfl⟩
      rw [List.mem_filter, mem_pathsM] at hs
      obtain ⟨⟨m', hm', h1⟩, _⟩ := hs
      rw [List.mem_singleton] at hm'
      subst hm'
      obtain ⟨v, hv⟩ := Option.isSome_iff_exists.1 h1
      rw [valM, hv]
      exact (h.at_ s v).2 hv
    · intro hx
      have h1 := (h.at_ x.f0 x.f1).1 hx
      have h2 : valM m x.f0 = x.f1 := by rw [valM, h1]; rfl
      refine ⟨x.f0, List.mem_filter.2 ⟨(mem_pathsM _ _).2 ⟨m, List.mem_singleton.2 rfl, by rw [h1]; rfl⟩, decide_eq_true (by rw [h2]; exact h.nz x hx)⟩, ?_⟩
      rw [h2]
/-- The changes, one after the other, over lists in order. -/
def applyR : FS → List SC → Option FS
  | r, [] => some r
  | r, c :: cs => if c.f1 = 0 then (if thereL r c.f0 = true then applyR (setM r c.f0 0) cs else none) else applyR (setM r c.f0 c.f1) cs
theorem apply_rel : ∀ (cs : List SC) {r : FS} {m : MP}, RepL r m → (applyR r cs = none ∧ applyM m cs = none) ∨ ∃ r' m', applyR r cs = some r' ∧ applyM m cs = some m' ∧ RepL r' m'
  | [], r, m, h => .inr ⟨r, m, rfl, rfl, h⟩
  | c :: cs, r, m, h => by
    rw [applyR, applyM]
    by_cases e : c.f1 = 0
    · rw [if_pos e, if_pos e, h.there]
      by_cases e2 : thereL r c.f0 = true
      · rw [if_pos e2, if_pos e2]; exact apply_rel cs (h.del _)
      · rw [if_neg e2, if_neg e2]; exact .inl ⟨rfl, rfl⟩
    · rw [if_neg e, if_neg e]; exact apply_rel cs (h.put _ _ e)
theorem applyR_size : ∀ (cs : List SC) {r r' : FS}, applyR r cs = some r' → (∀ f ∈ r, f.f0.size ≤ 140737488351232) → (∀ c ∈ cs, c.f0.size ≤ 140737488351232) → (∀ f ∈ r', f.f0.size ≤ 140737488351232) ∧ r'.length ≤ r.length + cs.length
  | [], r, r', h, hr, _ => by
    obtain rfl := Option.some.inj h
    exact ⟨hr, Nat.le_add_right _ _⟩
  | c :: cs, r, r', h, hr, hc => by
    have hset : ∀ b, ∀ f ∈ setM r c.f0 b, f.f0.size ≤ 140737488351232 := fun b f hf => by
      rcases (mem_setM f).1 hf with ⟨_, rfl⟩ | ⟨h1, _⟩
      · exact hc c List.mem_cons_self
      · exact hr f h1
    have go : ∀ b, applyR (setM r c.f0 b) cs = some r' → _ := fun b e => applyR_size cs e (hset b) (fun c hc' => hc c (List.mem_cons_of_mem _ hc'))
    rw [applyR] at h
    have fin : ∀ b, applyR (setM r c.f0 b) cs = some r' → (∀ f ∈ r', f.f0.size ≤ 140737488351232) ∧ r'.length ≤ r.length + (c :: cs).length := fun b e => by
      obtain ⟨h1, h2⟩ := go b e
      have := setM_len r c.f0 b
      refine ⟨h1, ?_⟩
      rw [List.length_cons]; omega
    by_cases e : c.f1 = 0
    · rw [if_pos e] at h
      by_cases e2 : thereL r c.f0 = true
      · rw [if_pos e2] at h; exact fin _ h
      · rw [if_neg e2] at h; cases h
    · rw [if_neg e] at h; exact fin _ h
/-- What Apply answers. -/
def applyOut (l : FS) (c : List SC) : FS × Int :=
  if rightM l = 0 then (if c.length > 16 then ([], 4) else match applyR l c with
    | none => ([], 8)
    | some r => if rightM r = 0 then (r, 0) else ([], rightM r)) else ([], rightM l)
theorem Apply_is (l : FS) (c : List SC) (hs : ∀ f ∈ l, f.f0.size ≤ 140737488351232) (hc : ∀ x ∈ c, x.f0.size ≤ 140737488351232 ∧ okI x.f1 = true) : Ev (fun k => tree_Apply.f k l c) (applyOut l c) := by
  refine Ev.bind (Right_is l hs) ?_
  rw [applyOut]
  by_cases h : rightM l = 0
  · rw [if_pos h]
    refine Ev.ite_pos h ?_
    by_cases h16 : (c.length : Int) > 16
    · rw [if_pos (by omega)]
      exact Ev.ite_pos h16 (Ev.now _)
    rw [if_neg (by omega)]
    have ht := tree_of h
    have hl := ht.len
    have hoc : okCs c = true := by
      rw [okCs, List.all_eq_true]
      intro x hx
      rw [Bool.and_eq_true]
      exact ⟨decide_eq_true (hc x hx).1, (hc x hx).2⟩
    refine Ev.ite_neg h16 (Ev.ite_pos ⟨okFs_tree ht, hoc, by omega⟩ ?_)
    rcases apply_rel c (RepL.init ht) with ⟨e1, e2⟩ | ⟨r, m, e1, e2, hr⟩
    · rw [e1, e2]
      exact Ev.ite_pos rfl (Ev.now _)
    · rw [e1, e2]
      refine Ev.ite_neg (by simp) ?_
      rw [Option.getD_some, hr.files]
      refine Ev.bind (Right_is r (applyR_size c e1 hs (fun x hx => (hc x hx).1)).1) ?_
      by_cases e3 : rightM r = 0
      · rw [show (match some r with | none => (([] : FS), (8 : Int)) | some r => if rightM r = 0 then (r, 0) else ([], rightM r)) = (r, 0) from if_pos e3]
        exact Ev.ite_pos e3 (Ev.now _)
      · rw [show (match some r with | none => (([] : FS), (8 : Int)) | some r => if rightM r = 0 then (r, 0) else ([], rightM r)) = ([], rightM r) from if_neg e3]
        exact Ev.ite_neg e3 (Ev.now _)
  · rw [if_neg h]
    exact Ev.ite_neg h (Ev.now _)
theorem blob_set {r : FS} (h : IncF r) (p : ByteArray) (b : Int) (s : ByteArray) : blobL (setM r p b) s = if p = s then b else blobL r s := by
  have hi := setM_inc h p b
  by_cases e : p = s
  · subst e
    rw [if_pos rfl]
    by_cases e0 : b = 0
    · rw [e0, blobL_none]
      intro f hf e2
      rcases (mem_setM f).1 hf with ⟨e3, _⟩ | ⟨_, e3⟩
      · exact e3 rfl
      · exact e3 e2
    · exact blobL_mem hi ((mem_setM _).2 (.inl ⟨e0, rfl⟩))
  · rw [if_neg e]
    rcases Classical.em (∃ f ∈ r, f.f0 = s) with ⟨f, hf, rfl⟩ | hn
    · rw [blobL_mem h hf]
      exact blobL_mem hi ((mem_setM f).2 (.inr ⟨hf, fun e2 => e e2.symm⟩))
    · rw [blobL_none (fun f hf e2 => hn ⟨f, hf, e2⟩), blobL_none]
      intro f hf e2
      rcases (mem_setM f).1 hf with ⟨_, rfl⟩ | ⟨h1, _⟩
      · exact e e2
      · exact hn ⟨f, h1, e2⟩
end Go.Proofs.YtpnhamfodjfacaaDoor.Q
