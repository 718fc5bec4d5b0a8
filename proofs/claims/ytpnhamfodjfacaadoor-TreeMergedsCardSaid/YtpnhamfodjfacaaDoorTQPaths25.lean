/- The paths of lists of files; Diff and Merge, of the program and of the document. -/
import Derived.Test.YtpnhamfodjfacaaDoorTQSet25
import Derived.Test.YtpnhamfodjfacaaDoorTx7
import Derived.Test.YtpnhamfodjfacaaDoorTx8
import Derived.Test.YtpnhamfodjfacaaDoorTx12
import Derived.Test.YtpnhamfodjfacaaDoorTx13
import Derived.Test.YtpnhamfodjfacaaDoorTx16
namespace Go.Proofs.YtpnhamfodjfacaaDoor.Q
open Go.RowKit Go.Proofs.YtpnhamfodjfacaaDoorW.PrintWords Go.Proofs.YtpnhamfodjfacaaDoorW.PrintLast Go.Proofs.YtpnhamfodjfacaaDoorW.PrintMore Go.Proofs.YtpnhamfodjfacaaDoor.T
set_option linter.unusedVariables false
set_option linter.unusedSimpArgs false
/-- All paths, each with the number 1. -/
def ones (l : FS) : FS := l.foldl (fun a f => setM a f.f0 1) []
theorem ones_snoc (l : FS) (f : SF) : ones (l ++ [f]) = setM (ones l) f.f0 1 := by rw [ones, List.foldl_append]; rfl
theorem ones_len (l : FS) : (ones l).length ≤ l.length := by
  have key : ∀ (l a : FS), (l.foldl (fun a f => setM a f.f0 1) a).length ≤ a.length + l.length := by
    intro l
    induction l with
    | nil => intro a; exact Nat.le_refl _
    | cons f l ih =>
      intro a
      have h1 := ih (setM a f.f0 1)
      have h2 := setM_len a f.f0 1
      rw [List.foldl_cons, List.length_cons]
      omega
  have := key l []
  rw [List.length_nil, Nat.zero_add] at this
  exact this
theorem ones_prop (l : FS) : IncF (ones l) ∧ ∀ s, (∃ x ∈ ones l, x.f0 = s) ↔ ∃ f ∈ l, f.f0 = s := by
  have key : ∀ (l a : FS), IncF a → IncF (l.foldl (fun a f => setM a f.f0 1) a) ∧ ∀ s, (∃ x ∈ l.foldl (fun a f => setM a f.f0 1) a, x.f0 = s) ↔ (∃ x ∈ a, x.f0 = s) ∨ ∃ f ∈ l, f.f0 = s := by
    intro l
    induction l with
    | nil => intro a ha; exact ⟨ha, fun s => by simp⟩
    | cons f l ih =>
      intro a ha
      obtain ⟨h1, h2⟩ := ih (setM a f.f0 1) (setM_inc ha _ _)
      rw [List.foldl_cons]
      refine ⟨h1, fun s => ?_⟩
      rw [h2 s]
      constructor
      · rintro (⟨x, hx, e⟩ | ⟨g, hg, e⟩)
        · rcases (mem_setM x).1 hx with ⟨_, rfl⟩ | ⟨h3, _⟩
          · exact .inr ⟨f, List.mem_cons_self, e⟩
          · exact .inl ⟨x, h3, e⟩
        · exact .inr ⟨g, List.mem_cons_of_mem _ hg, e⟩
      · rintro (⟨x, hx, e⟩ | ⟨g, hg, e⟩)
        · by_cases e2 : x.f0 = f.f0
          · exact .inl ⟨⟨f.f0, 1⟩, (mem_setM _).2 (.inl ⟨by decide, rfl⟩), by rw [← e, e2]⟩
          · exact .inl ⟨x, (mem_setM _).2 (.inr ⟨hx, e2⟩), e⟩
        · rcases List.mem_cons.1 hg with rfl | hg
          · exact .inl ⟨⟨g.f0, 1⟩, (mem_setM _).2 (.inl ⟨by decide, rfl⟩), e⟩
          · exact .inr ⟨g, hg, e⟩
  obtain ⟨h1, h2⟩ := key l [] List.Pairwise.nil
  exact ⟨h1, fun s => by rw [ones, h2 s]; simp⟩
theorem mem_paths (ls : List FS) (s : ByteArray) : s ∈ pathsM (ls.map contsM) ↔ ∃ l ∈ ls, ∃ f ∈ l, f.f0 = s := by
  rw [mem_pathsM]
  constructor
  · rintro ⟨m, hm, h⟩
    obtain ⟨l, hl, rfl⟩ := List.mem_map.1 hm
    exact ⟨l, hl, (mget_conts l s).1 h⟩
  · rintro ⟨l, hl, h⟩
    exact ⟨contsM l, List.mem_map.2 ⟨l, hl, rfl⟩, (mget_conts l s).2 h⟩
theorem pathsM_inc (ms : List MP) : Inc (pathsM ms) := uniqS_inc _
theorem ones_paths (ls : List FS) : (ones ls.flatten).map (·.f0) = pathsM (ls.map contsM) := by
  obtain ⟨h1, h2⟩ := ones_prop ls.flatten
  refine inc_ext (inc_of h1) (pathsM_inc _) (fun s => ?_)
  rw [mem_paths, List.mem_map]
  have := h2 s
  rw [this]
  constructor
  · rintro ⟨f, hf, e⟩
    obtain ⟨l, hl, hf⟩ := List.mem_flatten.1 hf
    exact ⟨l, hl, f, hf, e⟩
  · rintro ⟨l, hl, f, hf, e⟩
    exact ⟨f, List.mem_flatten.2 ⟨l, hl, hf⟩, e⟩
theorem rdL_nat (l : List FS) (i : Nat) (h : i < l.length) : rd_L4 l (i : Int) = l[i] := by
  simp [rd_L4, List.getD_eq_getElem?_getD, List.getElem?_eq_getElem h]
theorem rPaths_l2 (l : FS) (hl : l.length ≤ 1000000) : ∀ d (i : Nat), i + d = l.length → Ev (fun k => codesearchref25_paths.l2 k l ((l.take i).map (·.f0)) (i : Int)) (l.map (·.f0)) := by
  intro d
  induction d with
  | zero =>
    intro i hi
    rw [List.take_of_length_le (by omega)]
    refine Ev.step (f := fun _ => some (l.map (·.f0))) (fun k => ?_) (Ev.now _)
    rw [codesearchref25_paths.l2, if_neg (by omega)]
  | succ d ih =>
    intro i hi
    have hlt : i < l.length := by omega
    refine Ev.step (fun k => ?_) (ih (i + 1) (by omega))
    rw [codesearchref25_paths.l2, if_pos (show (i : Int) < (l.length : Int) by omega), if_pos (by omega), if_pos (by rw [List.length_map, List.length_take]; omega), rdF_nat l i hlt, w1 i (by omega), ← take_snoc l i hlt, List.map_append]
    rfl
theorem rPaths_l01 (ls : List FS) (hn : ls.length ≤ 1000) (hls : ls.flatten.length ≤ 1000000) : ∀ d (i : Nat), i + d = ls.length → Ev (fun k => codesearchref25_paths.l0 k (ones (ls.take i).flatten) ls (i : Int)) (pathsM (ls.map contsM)) := by
  intro d
  induction d with
  | zero =>
    intro i hi
    rw [List.take_of_length_le (by omega)]
    have h1 := ones_len ls.flatten
    refine Ev.step (fun k => by rw [codesearchref25_paths.l0, if_neg (by omega)]) ?_
    have := rPaths_l2 (ones ls.flatten) (by omega) (ones ls.flatten).length 0 (by omega)
    rw [ones_paths] at this
    exact this
  | succ d ih =>
    intro i hi
    have hlt : i < ls.length := by omega
    refine Ev.step (fun k => by rw [codesearchref25_paths.l0, if_pos (show (i : Int) < (ls.length : Int) by omega)]) ?_
    have hfl : (ls.take (i + 1)).flatten = (ls.take i).flatten ++ ls[i] := by
      rw [← take_snoc ls i hlt, List.flatten_append, List.flatten_singleton]
    have hbd : (ls.take (i + 1)).flatten.length ≤ 1000000 := by
      refine Nat.le_trans ?_ hls
      conv => rhs; rw [← List.take_append_drop (i + 1) ls]
      rw [List.flatten_append, List.length_append]
      omega
    rw [hfl, List.length_append] at hbd
    have key : ∀ e (j : Nat), j + e = ls[i].length → Ev (fun k => codesearchref25_paths.l1 k (ones ((ls.take i).flatten ++ ls[i].take j)) ls (i : Int) (j : Int)) (pathsM (ls.map contsM)) := by
      intro e
      induction e with
      | zero =>
        intro j hj
        rw [show ls[i].take j = ls[i] from List.take_of_length_le (by omega), ← hfl]
        refine Ev.step (fun k => ?_) (ih (i + 1) (by omega))
        rw [codesearchref25_paths.l1, if_pos (by omega), if_pos (show (i : Int) < (ls.length : Int) by omega), rdL_nat ls i hlt, if_neg (by omega), w1 i (by omega)]
      | succ e ihe =>
        intro j hj
        have hlt2 : j < ls[i].length := by omega
        refine Ev.step (fun k => by rw [codesearchref25_paths.l1, if_pos (by omega), if_pos (show (i : Int) < (ls.length : Int) by omega), rdL_nat ls i hlt, if_pos (by omega), if_pos (by omega), rdF_nat _ j hlt2, w1 j (by omega)]) ?_
        have h1 := ones_len ((ls.take i).flatten ++ ls[i].take j)
        rw [List.length_append, List.length_take] at h1
        refine Ev.bind (Set_is _ _ 1 (by omega)) ?_
        have := ihe (j + 1) (by omega)
        rw [← take_snoc ls[i] j hlt2, ← List.append_assoc, ones_snoc] at this
        exact this
    have := key ls[i].length 0 (by omega)
    rw [List.take_zero, List.append_nil] at this
    exact this
theorem rPaths_is (l0 l1 l2 : FS) (h0 : l0.length ≤ 100000) (h1 : l1.length ≤ 100000) (h2 : l2.length ≤ 100000) : Ev (fun k => codesearchref25_paths.f k l0 l1 l2) (pathsM [contsM l0, contsM l1, contsM l2]) := by
  have := rPaths_l01 [l0, l1, l2] (by simp) (by simp; omega) 3 0 (by simp)
  exact this
theorem pathsM_len3 (l0 l1 l2 : FS) (h0 : l0.length ≤ 100000) (h1 : l1.length ≤ 100000) (h2 : l2.length ≤ 100000) : (pathsM [contsM l0, contsM l1, contsM l2]).length ≤ 300000 := by
  have := pathsM_len [contsM l0, contsM l1, contsM l2] 100000 (by intro m hm; simp at hm; rcases hm with rfl | rfl | rfl <;> rw [contsM_len] <;> omega)
  simpa using this
/-! ### Diff -/
theorem okFs_tree {l : FS} (h : Tree l) : okFs l = true := by
  rw [okFs, List.all_eq_true]
  intro f hf
  have h1 := h.size f hf
  have h2 := h.blob f hf
  rw [Bool.and_eq_true]
  refine ⟨decide_eq_true (by omega), ?_⟩
  rw [okI, Bool.and_eq_true, decide_eq_true_iff, decide_eq_true_iff]
  omega
theorem val_tree {l : FS} (h : Tree l) (s : ByteArray) : valM (contsM l) s = blobL l s := val_blob h.inc s
theorem Diff_is {a b : FS} (ha : Tree a) (hb : Tree b) : tree_Diff.f a b = some (diffM (contsM a) (contsM b)) := by
  have h1 := ha.len
  have h2 := hb.len
  rw [tree_Diff.f, if_pos ⟨okFs_tree ha, okFs_tree hb, by omega, by omega⟩]
theorem paths_nil (a b : FS) : pathsM [contsM [], contsM a, contsM b] = pathsM [contsM a, contsM b] := by
  refine inc_ext (pathsM_inc _) (pathsM_inc _) (fun s => ?_)
  have h1 := mem_paths [[], a, b] s
  have h2 := mem_paths [a, b] s
  simp only [List.map_cons, List.map_nil] at h1 h2
  rw [h1, h2]
  simp
theorem rDiff_is {a b : FS} (ha : Tree a) (hb : Tree b) : Ev (fun k => codesearchref25_Diff.f k a b) (diffM (contsM a) (contsM b)) := by
  have hla := ha.len
  have hlb := hb.len
  refine Ev.bind (rPaths_is [] a b (by simp) (by omega) (by omega)) ?_
  rw [paths_nil]
  have hpl : (pathsM [contsM a, contsM b]).length ≤ 300000 := by
    rw [← paths_nil]; exact pathsM_len3 [] a b (by simp) (by omega) (by omega)
  unfold diffM
  simp only [val_tree ha, val_tree hb]
  generalize pathsM [contsM a, contsM b] = ks at hpl
  have key : ∀ d (i : Nat), i + d = ks.length → Ev (fun k => codesearchref25_Diff.l0 k a b (((ks.take i).filter fun s => decide (blobL a s ≠ blobL b s)).map fun s => (⟨s, blobL b s⟩ : SC)) ks (i : Int)) ((ks.filter fun s => decide (blobL a s ≠ blobL b s)).map fun s => (⟨s, blobL b s⟩ : SC)) := by
    intro d
    induction d with
    | zero =>
      intro i hi
      rw [List.take_of_length_le (by omega)]
      refine Ev.step (f := fun _ => some ((ks.filter fun s => decide (blobL a s ≠ blobL b s)).map fun s => (⟨s, blobL b s⟩ : SC))) (fun k => ?_) (Ev.now _)
      rw [codesearchref25_Diff.l0, if_neg (by omega)]
    | succ d ih =>
      intro i hi
      have hlt : i < ks.length := by omega
      have hn := ih (i + 1) (by omega)
      rw [← take_snoc ks i hlt, List.filter_append, List.map_append] at hn
      refine Ev.step (fun k => by rw [codesearchref25_Diff.l0, if_pos (show (i : Int) < (ks.length : Int) by omega), if_pos (by omega), rdOf_nat _ ks i hlt, w1 i (by omega)]) ?_
      refine Ev.bind (blob_is a _ (by omega)) (Ev.bind (blob_is b _ (by omega)) ?_)
      by_cases e : blobL a ks[i] = blobL b ks[i]
      · rw [List.filter_cons_of_neg (by simpa using e), List.filter_nil, List.map_nil, List.append_nil] at hn
        exact Ev.ite_pos e hn
      · rw [List.filter_cons_of_pos (by simpa using e), List.filter_nil] at hn
        refine Ev.ite_neg e (Ev.bind (blob_is b _ (by omega)) (Ev.ite_pos ?_ hn))
        have h1 := List.length_filter_le (fun s => decide (blobL a s ≠ blobL b s)) (ks.take i)
        rw [List.length_take] at h1
        rw [List.length_map]
        omega
  have := key ks.length 0 (by omega)
  rw [List.take_zero] at this
  exact this
/-! ### Merge -/
/-- What stands after the merge. -/
def pickL (o a b : FS) (s : ByteArray) : Int := if blobL a s = blobL o s then blobL b s else blobL a s
def clashL (o a b : FS) (s : ByteArray) : Bool := decide (blobL o s ≠ blobL a s) && (decide (blobL o s ≠ blobL b s) && decide (blobL a s ≠ blobL b s))
def mergeF (o a b : FS) : FS := ((pathsM [contsM o, contsM a, contsM b]).filter fun s => decide (pickL o a b s ≠ 0)).map fun s => ⟨s, pickL o a b s⟩
def mergeC (o a b : FS) : List ByteArray := (pathsM [contsM o, contsM a, contsM b]).filter (clashL o a b)
theorem mget_mergedL (x y z : MP) (ks : List ByteArray) (s : ByteArray) : (s ∈ ks → mget (mergedM x y z ks) s = some (pickM x y z s)) ∧ (s ∉ ks → mget (mergedM x y z ks) s = none) := by
  have key : ∀ l : List ByteArray, (s ∈ l → mget (l.map fun s => (s, pickM x y z s)) s = some (pickM x y z s)) ∧ (s ∉ l → mget (l.map fun s => (s, pickM x y z s)) s = none) := by
    intro l
    induction l with
    | nil => exact ⟨fun h => (by cases h), fun _ => rfl⟩
    | cons a l ih =>
      rw [List.map_cons, mget, List.mem_cons]
      by_cases e : a = s
      · subst e; rw [if_pos rfl]; exact ⟨fun _ => rfl, fun h => absurd (Or.inl rfl) h⟩
      · rw [if_neg e]
        exact ⟨fun h => ih.1 (h.resolve_left (fun e2 => e e2.symm)), fun h => ih.2 (fun h2 => h (.inr h2))⟩
  have := key ks.reverse
  rw [List.mem_reverse, List.map_reverse] at this
  exact this
theorem isSome_mergedL (x y z : MP) (ks : List ByteArray) (s : ByteArray) : (mget (mergedM x y z ks) s).isSome = true ↔ s ∈ ks := by
  obtain ⟨h1, h2⟩ := mget_mergedL x y z ks s
  constructor
  · intro h
    rcases Classical.em (s ∈ ks) with e | e
    · exact e
    · rw [h2 e] at h; cases h
  · intro h; rw [h1 h]; rfl
theorem filesM_congr {m : MP} {ks : List ByteArray} (hk : Inc ks) (hm : ∀ s, (mget m s).isSome = true ↔ s ∈ ks) : filesM m = (ks.filter fun s => decide (valM m s ≠ 0)).map fun s => ⟨s, valM m s⟩ := by
  rw [filesM, show pathsM [m] = ks from inc_ext (pathsM_inc _) hk (fun s => by rw [mem_pathsM, ← hm s]; simp)]
theorem Merge_is {o a b : FS} (ho : Tree o) (ha : Tree a) (hb : Tree b) : tree_Merge.f o a b = some (mergeF o a b, mergeC o a b) := by
  have h0 := ho.len
  have h1 := ha.len
  have h2 := hb.len
  rw [tree_Merge.f, if_pos ⟨okFs_tree ho, okFs_tree ha, okFs_tree hb, by omega, by omega, by omega⟩]
  have hp : ∀ s, pickM (contsM o) (contsM a) (contsM b) s = pickL o a b s := fun s => by
    rw [pickM, pickL, val_tree ho, val_tree ha, val_tree hb]
  have hc : clashM (contsM o) (contsM a) (contsM b) = clashL o a b := by
    funext s
    rw [clashM, clashL, val_tree ho, val_tree ha, val_tree hb]
  rw [mergeF, mergeC, hc]
  generalize hks : pathsM [contsM o, contsM a, contsM b] = ks
  have hki : Inc ks := by rw [← hks]; exact pathsM_inc _
  congr 2
  rw [filesM_congr hki (fun s => isSome_mergedL _ _ _ ks s)]
  have hv : ∀ s ∈ ks, valM (mergedM (contsM o) (contsM a) (contsM b) ks) s = pickL o a b s := fun s hs => by
    rw [valM, (mget_mergedL _ _ _ ks s).1 hs, Option.getD_some, hp]
  rw [List.filter_congr (q := fun s => decide (pickL o a b s ≠ 0)) (fun s hs => by rw [hv s hs])]
  refine List.map_congr_left (fun s hs => ?_)
  rw [hv s (List.mem_filter.1 hs).1]
theorem rMerge_is {o a b : FS} (ho : Tree o) (ha : Tree a) (hb : Tree b) : Ev (fun k => codesearchref25_Merge.f k o a b) (mergeF o a b, mergeC o a b) := by
  have hlo := ho.len
  have hla := ha.len
  have hlb := hb.len
  refine Ev.bind (rPaths_is o a b (by omega) (by omega) (by omega)) ?_
  have hpl := pathsM_len3 o a b (by omega) (by omega) (by omega)
  rw [mergeF, mergeC]
  generalize pathsM [contsM o, contsM a, contsM b] = ks at hpl
  have key : ∀ d (i : Nat), i + d = ks.length → Ev (fun k => codesearchref25_Merge.l0 k o a b (((ks.take i).filter fun s => decide (pickL o a b s ≠ 0)).map fun s => (⟨s, pickL o a b s⟩ : SF)) ((ks.take i).filter (clashL o a b)) ks (i : Int)) ((ks.filter fun s => decide (pickL o a b s ≠ 0)).map (fun s => (⟨s, pickL o a b s⟩ : SF)), ks.filter (clashL o a b)) := by
    intro d
    induction d with
    | zero =>
      intro i hi
      rw [List.take_of_length_le (by omega)]
      refine Ev.step (f := fun _ => some ((ks.filter fun s => decide (pickL o a b s ≠ 0)).map (fun s => (⟨s, pickL o a b s⟩ : SF)), ks.filter (clashL o a b))) (fun k => ?_) (Ev.now _)
      rw [codesearchref25_Merge.l0, if_neg (by omega)]
    | succ d ih =>
      intro i hi
      have hlt : i < ks.length := by omega
      have hn := ih (i + 1) (by omega)
      rw [← take_snoc ks i hlt, List.filter_append, List.map_append, List.filter_append] at hn
      have hL1 : (((ks.take i).filter fun s => decide (pickL o a b s ≠ 0)).map fun s => (⟨s, pickL o a b s⟩ : SF)).length ≤ 300000 := by
        have h1 := List.length_filter_le (fun s => decide (pickL o a b s ≠ 0)) (ks.take i)
        rw [List.length_take] at h1
        rw [List.length_map]
        omega
      have hL2 : ((ks.take i).filter (clashL o a b)).length ≤ 300000 := by
        have h1 := List.length_filter_le (clashL o a b) (ks.take i)
        rw [List.length_take] at h1
        omega
      generalize ((ks.take i).filter fun s => decide (pickL o a b s ≠ 0)).map (fun s => (⟨s, pickL o a b s⟩ : SF)) = r at hn hL1 ⊢
      generalize (ks.take i).filter (clashL o a b) = c at hn hL2 ⊢
      have hrd := rdOf_nat ByteArray.empty ks i hlt
      refine Ev.step (fun k => by rw [codesearchref25_Merge.l0, if_pos (show (i : Int) < (ks.length : Int) by omega), if_pos (by omega), hrd]) ?_
      generalize ks[i] = s at hn hrd
      refine Ev.bind (blob_is o s (by omega)) (Ev.bind (blob_is a s (by omega)) (Ev.bind (blob_is b s (by omega)) ?_))
      have hend : ∀ r', Ev (fun k => codesearchref25_Merge.l0 k o a b r' (c ++ [s].filter (clashL o a b)) ks ((i + 1 : Nat) : Int)) ((ks.filter fun s => decide (pickL o a b s ≠ 0)).map (fun s => (⟨s, pickL o a b s⟩ : SF)), ks.filter (clashL o a b)) →
          Ev (fun k => if blobL a s = blobL o s then codesearchref25_Merge.l0 k o a b r' c ks ((i + 1 : Nat) : Int) else if blobL b s = blobL o s then codesearchref25_Merge.l0 k o a b r' c ks ((i + 1 : Nat) : Int) else if blobL a s = blobL b s then codesearchref25_Merge.l0 k o a b r' c ks ((i + 1 : Nat) : Int) else if c.length < 8796093022208 then codesearchref25_Merge.l0 k o a b r' (c ++ [s]) ks ((i + 1 : Nat) : Int) else none) ((ks.filter fun s => decide (pickL o a b s ≠ 0)).map (fun s => (⟨s, pickL o a b s⟩ : SF)), ks.filter (clashL o a b)) := by
        intro r' h
        by_cases e1 : blobL a s = blobL o s
        · rw [List.filter_cons_of_neg (by simp [clashL, e1]), List.filter_nil, List.append_nil] at h
          exact Ev.ite_pos e1 h
        refine Ev.ite_neg e1 ?_
        by_cases e2 : blobL b s = blobL o s
        · rw [List.filter_cons_of_neg (by simp [clashL, e2]), List.filter_nil, List.append_nil] at h
          exact Ev.ite_pos e2 h
        refine Ev.ite_neg e2 ?_
        by_cases e3 : blobL a s = blobL b s
        · rw [List.filter_cons_of_neg (by simp [clashL, e3]), List.filter_nil, List.append_nil] at h
          exact Ev.ite_pos e3 h
        · rw [List.filter_cons_of_pos (by simp [clashL, e3, Ne.symm e1, Ne.symm e2]), List.filter_nil] at h
          exact Ev.ite_neg e3 (Ev.ite_pos (by omega) h)
      have hj : Ev (fun k => codesearchref25_Merge.j1 k o a b r c ks (i : Int) (blobL o s) (blobL a s) (blobL b s) (pickL o a b s)) ((ks.filter fun s => decide (pickL o a b s ≠ 0)).map (fun s => (⟨s, pickL o a b s⟩ : SF)), ks.filter (clashL o a b)) := by
        refine Ev.step (fun k => by rw [codesearchref25_Merge.j1, w1 i (by omega), hrd]) ?_
        by_cases e : pickL o a b s = 0
        · rw [List.filter_cons_of_neg (by simpa using e), List.filter_nil, List.map_nil, List.append_nil] at hn
          refine Ev.ite_pos e ?_
          refine Ev.congr (fun k => ?_) (hend r hn)
          rw [if_pos (show (0 : Int) ≤ (i : Int) by omega), if_pos (show (i : Int) < (ks.length : Int) by omega)]
        · rw [List.filter_cons_of_pos (by simpa using e), List.filter_nil, List.map_cons, List.map_nil] at hn
          refine Ev.ite_neg e (Ev.ite_pos (by omega) (Ev.ite_pos (by omega) (Ev.ite_pos (by omega) ?_)))
          exact hend _ hn
      by_cases e : blobL a s = blobL o s
      · rw [pickL, if_pos e] at hj
        exact Ev.ite_pos e hj
      · rw [pickL, if_neg e] at hj
        exact Ev.ite_neg e hj
  have := key ks.length 0 (by omega)
  rw [List.take_zero] at this
  exact this
end Go.Proofs.YtpnhamfodjfacaaDoor.Q
