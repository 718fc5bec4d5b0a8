/- The paths of lists of files; Diff and Merge, of the program and of the document. -/
import Derived.Test.YtpnhamfodjfacaaDoorNQSet25
import Derived.Test.YtpnhamfodjfacaaDoorNx7
import Derived.Test.YtpnhamfodjfacaaDoorNx8
namespace Go.Proofs.YtpnhamfodjfacaaDoor.Q
open Go.RowKit Go.Proofs.YtpnhamfodjfacaaDoorW.PrintWords Go.Proofs.YtpnhamfodjfacaaDoorW.PrintLast Go.Proofs.YtpnhamfodjfacaaDoorW.PrintMore Go.Proofs.YtpnhamfodjfacaaDoor.N
set_option linter.unusedVariables false
set_option linter.unusedSimpArgs false
/-- All paths, each with the number 1. -/
def ones (l : FS) : FS := l.foldl (fun a f => setM a f.f0 1) []
theorem ones_snoc (l : FS) (f : SF) : ones (l ++ [f]) = setM (ones l) f.f0 1 := by rw [ones, List.foldl_append]; rfl
theorem ones_len (l : FS) : (ones l).length ≤ l.length := by
  have key : ∀ (l a : FS), (l.foldl (fun a f => setM a f.f0 1) a).length ≤ a.length + l.length := by
    intro l
    induction l with
    | nil => intro a; exact Nat.le_refl _
    | cons f l ih =>
      intro a
      have h1 := ih (setM a f.f0 1)
      have h2 := setM_len a f.f0 1
      rw [List.foldl_cons, List.length_cons]
      omega
  have := key l []
  rw [List.length_nil, Nat.zero_add] at this
  exact this
theorem ones_prop (l : FS) : IncF (ones l) ∧ ∀ s, (∃ x ∈ ones l, x.f0 = s) ↔ ∃ f ∈ l, f.f0 = s := by
  have key : ∀ (l a : FS), IncF a → IncF (l.foldl (fun a f => setM a f.f0 1) a) ∧ ∀ s, (∃ x ∈ l.foldl (fun a f => setM a f.f0 1) a, x.f0 = s) ↔ (∃ x ∈ a, x.f0 = s) ∨ ∃ f ∈ l, f.f0 = s := by
    intro l
    induction l with
    | nil => intro a ha; exact ⟨ha, fun s => by simp⟩
    | cons f l ih =>
      intro a ha
      obtain ⟨h1, h2⟩ := ih (setM a f.f0 1) (setM_inc ha _ _)
      rw [List.foldl_cons]
      refine ⟨h1, fun s => ?_⟩
      rw [h2 s]
      constructor
      · rintro (⟨x, hx, e⟩ | ⟨g, hg, e⟩)
        · rcases (mem_setM x).1 hx with ⟨_, rfl⟩ | ⟨h3, _⟩
          · exact .inr ⟨f, List.mem_cons_self, e⟩
          · exact .inl ⟨x, h3, e⟩
        · exact .inr ⟨g, List.mem_cons_of_mem _ hg, e⟩
      · rintro (⟨x, hx, e⟩ | ⟨g, hg, e⟩)
        · by_cases e2 : x.f0 = f.f0
          · exact .inl ⟨⟨f.f0, 1⟩, (mem_setM _).2 (.inl ⟨by decide, rfl⟩), by rw [← e, e2]⟩
          · exact .inl ⟨x, (mem_setM _).2 (.inr ⟨hx, e2⟩), e⟩
        · rcases List.mem_cons.1 hg with rfl | hg
          · exact .inl ⟨⟨g.f0, 1⟩, (mem_setM _).2 (.inl ⟨by decide, rfl⟩), e⟩
          · exact .inr ⟨g, hg, e⟩
  obtain ⟨h1, h2⟩ := key l [] List.Pairwise.nil
  exact ⟨h1, fun s => by rw [ones, h2 s]; simp⟩
theorem mem_paths (ls : List FS) (s : ByteArray) : s ∈ pathsM (ls.map contsM) ↔ ∃ l ∈ ls, ∃ f ∈ l, f.f0 = s := by
  rw [mem_pathsM]
  constructor
  · rintro ⟨m, hm, h⟩
    obtain ⟨l, hl, rfl⟩ := List.mem_map.1 hm
    exact ⟨l, hl, (mget_conts l s).1 h⟩
  · rintro ⟨l, hl, h⟩
    exact ⟨contsM l, List.mem_map.2 ⟨l, hl, rfl⟩, (mget_conts l s).2 h⟩
theorem pathsM_inc (ms : List MP) : Inc (pathsM ms) := uniqS_inc _
theorem ones_paths (ls : List FS) : (ones ls.flatten).map (·.f0) = pathsM (ls.map contsM) := by
  obtain ⟨h1, h2⟩ := ones_prop ls.flatten
  refine inc_ext (inc_of h1) (pathsM_inc _) (fun s => ?_)
  rw [mem_paths, List.mem_map]
  have := h2 s
  rw [this]
  constructor
  · rintro ⟨f, hf, e⟩
    obtain ⟨l, hl, hf⟩ := List.mem_flatten.1 hf
    exact ⟨l, hl, f, hf, e⟩
  · rintro ⟨l, hl, f, hf, e⟩
    exact ⟨f, List.mem_flatten.2 ⟨l, hl, hf⟩, e⟩
theorem pathsM_len3 (l0 l1 l2 : FS) (h0 : l0.length ≤ 100000) (h1 : l1.length ≤ 100000) (h2 : l2.length ≤ 100000) : (pathsM [contsM l0, contsM l1, contsM l2]).length ≤ 300000 := by
  have := pathsM_len [contsM l0, contsM l1, contsM l2] 100000 (by intro m hm; simp at hm; rcases hm with rfl | rfl | rfl <;> rw [contsM_len] <;> omega)
  simpa using this
/-! ### Diff -/
theorem okFs_tree {l : FS} (h : Tree l) : okFs l = true := by
  rw [okFs, List.all_eq_true]
  intro f hf
  have h1 := h.size f hf
  have h2 := h.blob f hf
  rw [Bool.and_eq_true]
  refine ⟨decide_eq_true (by omega), ?_⟩
  rw [okI, Bool.and_eq_true, decide_eq_true_iff, decide_eq_true_iff]
  omega
theorem val_tree {l : FS} (h : Tree l) (s : ByteArray) : valM (contsM l) s = blobL l s := val_blob h.inc s
theorem Diff_is {a b : FS} (ha : Tree a) (hb : Tree b) : tree_Diff.f a b = some (diffM (contsM a) (contsM b)) := by
  have h1 := ha.len
  have h2 := hb.len
  rw [tree_Diff.f, if_pos ⟨okFs_tree ha, okFs_tree hb, by omega, by omega⟩]
theorem paths_nil (a b : FS) : pathsM [contsM [], contsM a, contsM b] = pathsM [contsM a, contsM b] := by
  refine inc_ext (pathsM_inc _) (pathsM_inc _) (fun s => ?_)
  have h1 := mem_paths [[], a, b] s
  have h2 := mem_paths [a, b] s
  simp only [List.map_cons, List.map_nil] at h1 h2
  rw [h1, h2]
  simp
/-! ### Merge -/
/-- What stands after the merge. -/
def pickL (o a b : FS) (s : ByteArray) : Int := if blobL a s = blobL o s then blobL b s else blobL a s
def clashL (o a b : FS) (s : ByteArray) : Bool := decide (blobL o s ≠ blobL a s) && (decide (blobL o s ≠ blobL b s) && decide (blobL a s ≠ blobL b s))
def mergeF (o a b : FS) : FS := ((pathsM [contsM o, contsM a, contsM b]).filter fun s => decide (pickL o a b s ≠ 0)).map fun s => ⟨s, pickL o a b s⟩
def mergeC (o a b : FS) : List ByteArray := (pathsM [contsM o, contsM a, contsM b]).filter (clashL o a b)
theorem mget_mergedL (x y z : MP) (ks : List ByteArray) (s : ByteArray) : (s ∈ ks → mget (mergedM x y z ks) s = some (pickM x y z s)) ∧ (s ∉ ks → mget (mergedM x y z ks) s = none) := by
  have key : ∀ l : List ByteArray, (s ∈ l → mget (l.map fun s => (s, pickM x y z s)) s = some (pickM x y z s)) ∧ (s ∉ l → mget (l.map fun s => (s, pickM x y z s)) s = none) := by
    intro l
    induction l with
    | nil => exact ⟨fun h => (by cases h), fun _ => rfl⟩
    | cons a l ih =>
      rw [List.map_cons, mget, List.mem_cons]
      by_cases e : a = s
      · subst e; rw [if_pos rfl]; exact ⟨fun _ => rfl, fun h => absurd (Or.inl rfl) h⟩
      · rw [if_neg e]
        exact ⟨fun h => ih.1 (h.resolve_left (fun e2 => e e2.symm)), fun h => ih.2 (fun h2 => h (.inr h2))⟩
  have := key ks.reverse
  rw [List.mem_reverse, List.map_reverse] at this
  exact this
theorem isSome_mergedL (x y z : MP) (ks : List ByteArray) (s : ByteArray) : (mget (mergedM x y z ks) s).isSome = true ↔ s ∈ ks := by
  obtain ⟨h1, h2⟩ := mget_mergedL x y z ks s
  constructor
  · intro h
    rcases Classical.em (s ∈ ks) with e | e
    · exact e
    · rw [h2 e] at h; cases h
  · intro h; rw [h1 h]; rfl
theorem filesM_congr {m : MP} {ks : List ByteArray} (hk : Inc ks) (hm : ∀ s, (mget m s).isSome = true ↔ s ∈ ks) : filesM m = (ks.filter fun s => decide (valM m s ≠ 0)).map fun s => ⟨s, valM m s⟩ := by
  rw [filesM, show pathsM [m] = ks from inc_ext (pathsM_inc _) hk (fun s => by rw [mem_pathsM, ← hm s]; simp)]
theorem Merge_is {o a b : FS} (ho : Tree o) (ha : Tree a) (hb : Tree b) : tree_Merge.f o a b = some (mergeF o a b, mergeC o a b) := by
  have h0 := ho.len
  have h1 := ha.len
  have h2 := hb.len
  rw [tree_Merge.f, if_pos ⟨okFs_tree ho, okFs_tree ha, okFs_tree hb, by omega, by omega, by omega⟩]
  have hp : ∀ s, pickM (contsM o) (contsM a) (contsM b) s = pickL o a b s := fun s => by
    rw [pickM, pickL, val_tree ho, val_tree ha, val_tree hb]
  have hc : clashM (contsM o) (contsM a) (contsM b) = clashL o a b := by
    funext s
    rw [clashM, clashL, val_tree ho, val_tree ha, val_tree hb]
  rw [mergeF, mergeC, hc]
  generalize hks : pathsM [contsM o, contsM a, contsM b] = ks
  have hki : Inc ks := by rw [← hks]; exact pathsM_inc _
  congr 2
  rw [filesM_congr hki (fun s => isSome_mergedL _ _ _ ks s)]
  have hv : ∀ s ∈ ks, valM (mergedM (contsM o) (contsM a) (contsM b) ks) s = pickL o a b s := fun s hs => by
    rw [valM, (mget_mergedL _ _ _ ks s).1 hs, Option.getD_some, hp]
  rw [List.filter_congr (q := fun s => decide (pickL o a b s ≠ 0)) (fun s hs => by rw [hv s hs])]
  refine List.map_congr_left (fun s hs => ?_)
  rw [hv s (List.mem_filter.1 hs).1]
end Go.Proofs.YtpnhamfodjfacaaDoor.Q
