/- Under and Names, of the program and of the document. -/
import Derived.Test.YtpnhamfodjfacaaDoorNQAlive25
import Derived.Test.YtpnhamfodjfacaaDoorNQTrees25
import Derived.Test.YtpnhamfodjfacaaDoorNQRSet25
import Derived.Test.YtpnhamfodjfacaaDoorNx7
import Derived.Test.YtpnhamfodjfacaaDoorNx8
import Derived.Test.YtpnhamfodjfacaaDoorNx11
import Derived.Test.YtpnhamfodjfacaaDoorNx12
namespace Go.Proofs.YtpnhamfodjfacaaDoor.Q
open Go.RowKit Go.Proofs.YtpnhamfodjfacaaDoorW.PrintWords Go.Proofs.YtpnhamfodjfacaaDoorW.PrintLast Go.Proofs.YtpnhamfodjfacaaDoorW.PrintMore Go.Proofs.YtpnhamfodjfacaaDoor.N
set_option linter.unusedVariables false
set_option linter.unusedSimpArgs false
def underF (l : FS) (d : ByteArray) : FS := l.filter fun f => underP f.f0 d
theorem Under_all (l : FS) (d : ByteArray) (hl : l.length ≤ 1000000) (hd : d.size ≤ 140737488351232) : Ev (fun k => tree_Under.f k l d) (underF l d) := by
  have key : ∀ e (i : Nat), i + e = l.length → Ev (fun k => tree_Under.l0 k d (underF (l.take i) d) l (l.length : Int) (i : Int)) (underF l d) := by
    intro e
    induction e with
    | zero =>
      intro i hi
      rw [List.take_of_length_le (by omega)]
      refine Ev.step (f := fun _ => some (underF l d)) (fun k => ?_) (Ev.now _)
      rw [tree_Under.l0, if_neg (by omega)]
    | succ e ih =>
      intro i hi
      have hlt : i < l.length := by omega
      have hn := ih (i + 1) (by omega)
      rw [← take_snoc l i hlt, underF, List.filter_append] at hn
      refine Ev.step (fun k => by rw [tree_Under.l0, if_pos (show (i : Int) < (l.length : Int) by omega), if_pos (by omega), if_pos (show (i : Int) < (l.length : Int) by omega), rdF_nat l i hlt, w1 i (by omega)]) ?_
      refine Ev.bind_eq (Under_is _ d hd) ?_
      by_cases h : underP l[i].f0 d = true
      · rw [List.filter_cons_of_pos (p := fun f : SF => underP f.f0 d) h, List.filter_nil] at hn
        have h1 : (underF (l.take i) d).length ≤ (l.take i).length := List.length_filter_le _ _
        rw [List.length_take] at h1
        exact Ev.ite_pos h (Ev.ite_pos (by omega) hn)
      · rw [List.filter_cons_of_neg (p := fun f : SF => underP f.f0 d) h, List.filter_nil, List.append_nil] at hn
        exact Ev.ite_neg h hn
  exact key l.length 0 (by omega)
theorem rUnder_all (l : FS) (d : ByteArray) (hl : l.length ≤ 1000000) : Ev (fun k => codesearchref25_Under.f k l d) (underF l d) := by
  have key : ∀ e (i : Nat), i + e = l.length → Ev (fun k => codesearchref25_Under.l0 k l d (underF (l.take i) d) (i : Int)) (underF l d) := by
    intro e
    induction e with
    | zero =>
      intro i hi
      rw [List.take_of_length_le (by omega)]
      refine Ev.step (f := fun _ => some (underF l d)) (fun k => ?_) (Ev.now _)
      rw [codesearchref25_Under.l0, if_neg (by omega)]
    | succ e ih =>
      intro i hi
      have hlt : i < l.length := by omega
      have hn := ih (i + 1) (by omega)
      rw [← take_snoc l i hlt, underF, List.filter_append] at hn
      refine Ev.step (fun k => by rw [codesearchref25_Under.l0, if_pos (show (i : Int) < (l.length : Int) by omega), if_pos (by omega), rdF_nat l i hlt, w1 i (by omega)]) ?_
      refine Ev.bind_eq (rUnder_is _ d) ?_
      by_cases h : underP l[i].f0 d = true
      · rw [List.filter_cons_of_pos (p := fun f : SF => underP f.f0 d) h, List.filter_nil] at hn
        have h1 : (underF (l.take i) d).length ≤ (l.take i).length := List.length_filter_le _ _
        rw [List.length_take] at h1
        exact Ev.ite_pos h (Ev.ite_pos (by omega) hn)
      · rw [List.filter_cons_of_neg (p := fun f : SF => underP f.f0 d) h, List.filter_nil, List.append_nil] at hn
        exact Ev.ite_neg h hn
  exact key l.length 0 (by omega)
/-! ### Names -/
def tw (l : List UInt8) : List UInt8 := l.takeWhile fun c => decide (c ≠ 47)
theorem tw_none : ∀ {l : List UInt8}, (47 : UInt8) ∉ l → tw l = l
  | [], _ => rfl
  | c :: l, h => by
    rw [List.mem_cons, not_or] at h
    rw [tw, List.takeWhile_cons_of_pos (by simpa using fun e => h.1 e.symm)]
    congr 1
    exact tw_none h.2
theorem tw_at : ∀ {p : List UInt8} (r : List UInt8), (47 : UInt8) ∉ p → tw (p ++ 47 :: r) = p
  | [], r, _ => by rw [List.nil_append, tw, List.takeWhile_cons_of_neg (by simp)]
  | c :: p, r, h => by
    rw [List.mem_cons, not_or] at h
    rw [List.cons_append, tw, List.takeWhile_cons_of_pos (by simpa using fun e => h.1 e.symm)]
    congr 1
    exact tw_at r h.2
theorem tw_len (l : List UInt8) : (tw l).length ≤ l.length := (List.takeWhile_sublist _).length_le
/-- Where the name begins. -/
def fromD (d : ByteArray) : Nat := if bl d = [] then 0 else d.size + 1
def nameL (d s : ByteArray) : ByteArray := ofB (tw ((bl s).drop (fromD d)))
theorem from_le {d s : ByteArray} (h : underP s d = true) : fromD d ≤ s.size := by
  rw [fromD]
  by_cases e : bl d = []
  · rw [if_pos e]; exact Nat.zero_le _
  · rw [if_neg e]
    rw [underP, decide_eq_false e, Bool.false_or, decide_eq_true_iff] at h
    have h2 := congrArg List.length h
    rw [List.length_append, List.length_cons, bl_len, bl_len, List.length_drop, bl_len] at h2
    omega
theorem Cut_is (s : ByteArray) (hs : s.size ≤ 100000) : ∃ r2 r3, strings_Cut.f s ⟨#[47]⟩ = some (ofB (tw (bl s)), r2, r3) := by
  rw [strings_Cut.f, stringslite_Cut.f, stringslite_Index.f, if_pos (show (⟨#[47]⟩ : ByteArray).size = 1 from rfl)]
  show ∃ r2 r3, (Option.bind (Option.bind (some (Lib.indexByte (bl s) 47)) _) _) = _
  rw [Option.bind_some]
  by_cases h : 0 < (bl s).count 47
  · obtain ⟨o, ho, hol, hno, hsp⟩ := idx_of h
    rw [bl_len] at hol
    rw [ho, if_pos (by omega), if_pos (by omega), if_pos (by omega), sepSize, w64 (by omega) (by omega), if_pos (by omega), if_pos (by omega), Option.bind_some]
    refine ⟨s.extract ((o : Int) + 1).toNat s.size, true, ?_⟩
    congr 2
    rw [show tw (bl s) = (bl s).take o by conv => lhs; rw [hsp]; rw [tw_at _ hno], Int.toNat_natCast, ← ofB_bl (s.extract 0 o), bl_ext, List.drop_zero, Nat.sub_zero]
  · have hno : (47 : UInt8) ∉ bl s := fun hm => h (List.count_pos_iff.2 hm)
    have hx : Lib.indexByte (bl s) 47 = -1 := by
      have h1 := Lib.indexByte_ge (bl s) 47
      rcases Int.lt_or_le (Lib.indexByte (bl s) 47) 0 with h2 | h2
      · omega
      · obtain ⟨o, ho⟩ : ∃ o : Nat, Lib.indexByte (bl s) 47 = (o : Int) := ⟨(Lib.indexByte (bl s) 47).toNat, by omega⟩
        obtain ⟨h3, _⟩ := Lib.indexByte_some ho
        exact absurd (List.mem_of_getElem? h3) hno
    rw [hx, if_neg (by decide), Option.bind_some, tw_none hno, ofB_bl]
    exact ⟨⟨#[]⟩, false, rfl⟩
theorem rest_is {d s : ByteArray} (hd : d.size ≤ 140737488351232) (hs : s.size ≤ 100000) (h : underP s d = true) : ∃ t, restM d s = some t ∧ bl t = (bl s).drop (fromD d) := by
  have hle := from_le h
  rw [restM, toList_bl, fromD]
  rw [fromD] at hle
  by_cases e : bl d = []
  · rw [if_pos e, if_pos e]; exact ⟨s, rfl, rfl⟩
  · rw [if_neg e] at hle
    rw [if_neg e, if_neg e, w64 (by omega) (by omega), if_pos ⟨by omega, by omega⟩]
    refine ⟨_, rfl, ?_⟩
    rw [bl_ext, show ((d.size : Int) + 1).toNat = d.size + 1 by omega, List.take_of_length_le]
    rw [List.length_drop, bl_len]; omega
/-- The numbers of a map lie between 0 and n. -/
def upN (m : MP) (n : Nat) : Prop := ∀ s, 0 ≤ valM m s ∧ valM m s ≤ n
theorem names_go (d : ByteArray) (hd : d.size ≤ 140737488351232) : ∀ (us : FS) (m : MP) (n : Nat), (∀ f ∈ us, underP f.f0 d = true ∧ f.f0.size ≤ 100000) → upN m n → n + us.length ≤ 1000000 →
    ∃ m', namesM d m us = some m' ∧ ∀ s, (mget m' s).isSome = true ↔ (mget m s).isSome = true ∨ ∃ f ∈ us, nameL d f.f0 = s := by
  intro us
  induction us with
  | nil => intro m n _ _ _; exact ⟨m, rfl, fun s => by simp⟩
  | cons f us ih =>
    intro m n hus hm hn
    rw [List.length_cons] at hn
    obtain ⟨hf1, hf2⟩ := hus f List.mem_cons_self
    obtain ⟨t, ht, hbt⟩ := rest_is hd hf2 hf1
    have hts : t.size ≤ f.f0.size := by
      have := congrArg List.length hbt
      rw [bl_len, List.length_drop, bl_len] at this
      omega
    obtain ⟨r2, r3, hc⟩ := Cut_is t (by omega)
    have hnm : ofB (tw (bl t)) = nameL d f.f0 := by rw [nameL, hbt]
    rw [hnm] at hc
    have h1 := hm (nameL d f.f0)
    have hw : wrap64 (valM m (nameL d f.f0) + 1) = valM m (nameL d f.f0) + 1 := w64 (by omega) (by omega)
    have hsz : (nameL d f.f0).size ≤ f.f0.size := by
      have h2 := tw_len ((bl f.f0).drop (fromD d))
      rw [List.length_drop, bl_len] at h2
      show (tw ((bl f.f0).drop (fromD d))).length ≤ _
      omega
    have hok : okS (nameL d f.f0) = true ∧ okI (wrap64 (valM m (nameL d f.f0) + 1)) = true := by
      rw [hw]
      refine ⟨decide_eq_true (by omega), ?_⟩
      rw [okI, Bool.and_eq_true, decide_eq_true_iff, decide_eq_true_iff]
      omega
    obtain ⟨m', h3, h4⟩ := ih (mput m (nameL d f.f0) (valM m (nameL d f.f0) + 1)) (n + 1) (fun g hg => hus g (List.mem_cons_of_mem _ hg)) (fun s => by
      have := hm s
      unfold valM at this h1 ⊢
      rw [mget_put]
      by_cases e : nameL d f.f0 = s
      · rw [if_pos e, Option.getD_some]; omega
      · rw [if_neg e]; omega) (by omega)
    refine ⟨m', ?_, fun s => ?_⟩
    · rw [namesM, ht, Option.bind_some, hc, Option.bind_some, if_pos hok, hw]
      exact h3
    · rw [h4 s, mget_put]
      by_cases e : nameL d f.f0 = s
      · rw [if_pos e]
        exact ⟨fun _ => .inr ⟨f, List.mem_cons_self, e⟩, fun _ => .inl rfl⟩
      · rw [if_neg e]
        constructor
        · rintro (h5 | ⟨g, hg, h5⟩)
          · exact .inl h5
          · exact .inr ⟨g, List.mem_cons_of_mem _ hg, h5⟩
        · rintro (h5 | ⟨g, hg, h5⟩)
          · exact .inl h5
          · rcases List.mem_cons.1 hg with rfl | hg
            · exact absurd h5 e
            · exact .inr ⟨g, hg, h5⟩
def namesL (l : FS) (d : ByteArray) : List ByteArray := (ones ((underF l d).map fun f => ⟨nameL d f.f0, 1⟩)).map (·.f0)
theorem underF_prop {l : FS} (hs : ∀ f ∈ l, f.f0.size ≤ 60) (d : ByteArray) : ∀ f ∈ underF l d, underP f.f0 d = true ∧ f.f0.size ≤ 100000 := by
  intro f hf
  rw [underF, List.mem_filter] at hf
  exact ⟨hf.2, by have := hs f hf.1; omega⟩
theorem Names_is {l : FS} (ht : Tree l) (d : ByteArray) (hd : d.size ≤ 140737488351232) : Ev (fun k => tree_Names.f k l d) (namesL l d) := by
  have hl := ht.len
  have hul : (underF l d).length ≤ 32 := Nat.le_trans (List.length_filter_le _ _) hl
  obtain ⟨m', h1, h2⟩ := names_go d hd (underF l d) [] 0 (underF_prop ht.size d) (fun s => ⟨Int.le_refl _, Int.le_refl _⟩) (by omega)
  refine Ev.bind (Under_all l d (by omega) hd) (Ev.ite_pos (by omega) (Ev.bind_eq h1 ?_))
  refine Ev.congr (fun k => ?_) (Ev.now _)
  congr 1
  obtain ⟨h3, h4⟩ := ones_prop ((underF l d).map fun f => (⟨nameL d f.f0, 1⟩ : SF))
  refine inc_ext (pathsM_inc _) (inc_of h3) (fun s => ?_)
  rw [mem_pathsM, namesL, List.mem_map, h4 s]
  simp only [List.mem_singleton, exists_eq_left, List.mem_map]
  rw [h2 s]
  constructor
  · rintro (h5 | ⟨f, hf, e⟩)
    · cases h5
    · exact ⟨_, ⟨f, hf, rfl⟩, e⟩
  · rintro ⟨x, ⟨f, hf, rfl⟩, e⟩
    exact .inr ⟨f, hf, e⟩
theorem rNames_l2 (l : FS) (hl : l.length ≤ 1000000) : ∀ d (i : Nat), i + d = l.length → Ev (fun k => codesearchref25_Names.l2 k l ((l.take i).map (·.f0)) (i : Int)) (l.map (·.f0)) := by
  intro d
  induction d with
  | zero =>
    intro i hi
    rw [List.take_of_length_le (by omega)]
    refine Ev.step (f := fun _ => some (l.map (·.f0))) (fun k => ?_) (Ev.now _)
    rw [codesearchref25_Names.l2, if_neg (by omega)]
  | succ d ih =>
    intro i hi
    have hlt : i < l.length := by omega
    refine Ev.step (fun k => ?_) (ih (i + 1) (by omega))
    rw [codesearchref25_Names.l2, if_pos (show (i : Int) < (l.length : Int) by omega), if_pos (by omega), if_pos (by rw [List.length_map, List.length_take]; omega), rdF_nat l i hlt, w1 i (by omega), ← take_snoc l i hlt, List.map_append]
    rfl
theorem rNames_l1 (d : ByteArray) (acc us : FS) (i a : Nat) (hi : i < us.length) (hil : us.length ≤ 100000) (hs : us[i].f0.size ≤ 100000) (ha : acc.length ≤ 100000) (r : List ByteArray)
    (hr : Ev (fun k => codesearchref25_Names.l0 k d (setM acc (ofB (tw ((bl us[i].f0).drop a))) 1) us ((i + 1 : Nat) : Int)) r) :
    ∀ e (j : Nat), j + e = us[i].f0.size → a ≤ j → (47 : UInt8) ∉ ((bl us[i].f0).drop a).take (j - a) → Ev (fun k => codesearchref25_Names.l1 k d acc us (i : Int) (a : Int) (j : Int)) r := by
  have hrd : (rd_T45 us (i : Int)).f0 = us[i].f0 := by rw [rdF_nat us i hi]
  generalize us[i].f0 = s at hs hr hrd
  have fin : ∀ j : Nat, a ≤ j → j ≤ s.size → ((bl s).drop a).take (j - a) = tw ((bl s).drop a) → Ev (fun k => if 0 ≤ (a : Int) then (if (a : Int) ≤ (j : Int) then (if (j : Int) ≤ (s.size : Int) then ((codesearchref25_Set.f k acc (s.extract ((a : Int)).toNat ((j : Int)).toNat) 1).bind fun t => codesearchref25_Names.l0 k d t us ((i + 1 : Nat) : Int)) else none) else none) else none) r := by
    intro j h1 h2 h3
    refine Ev.ite_pos (by omega) (Ev.ite_pos (by omega) (Ev.ite_pos (by omega) ?_))
    rw [Int.toNat_natCast, Int.toNat_natCast, ← ofB_bl (s.extract a j), bl_ext, h3]
    exact Ev.bind (Set_is acc _ 1 (by omega)) hr
  intro e
  induction e with
  | zero =>
    intro j hj haj hno
    obtain rfl : j = s.size := by omega
    refine Ev.step (fun k => by rw [codesearchref25_Names.l1, if_pos (by omega), if_pos (by omega), hrd, if_neg (by omega), w1 i (by omega)]) (fin s.size haj (Nat.le_refl _) ?_)
    have hd : ((bl s).drop a).take (s.size - a) = (bl s).drop a := List.take_of_length_le (by rw [List.length_drop, bl_len]; omega)
    rw [hd] at hno ⊢
    exact (tw_none hno).symm
  | succ e ih =>
    intro j hj haj hno
    have hlt : j < (bl s).length := by rw [bl_len]; omega
    refine Ev.step (fun k => by rw [codesearchref25_Names.l1, if_pos (by omega), if_pos (by omega), hrd, if_pos (by omega), if_pos (by omega), bt_bl s j hlt, w1 i (by omega), w1 j (by omega)]) ?_
    have hsp : (bl s).drop a = ((bl s).drop a).take (j - a) ++ (bl s)[j] :: (bl s).drop (j + 1) := by
      have h1 := List.take_append_drop (j - a) ((bl s).drop a)
      rw [List.drop_drop, show a + (j - a) = j by omega, drop_cons _ j hlt] at h1
      exact h1.symm
    by_cases h : (bl s)[j] = 47
    · refine Ev.ite_pos ((u8_eq _ 47 (by omega)).2 h) (fin j haj (by omega) ?_)
      rw [h] at hsp
      conv => rhs; rw [hsp]
      rw [tw_at _ hno]
    · refine Ev.ite_neg (fun e2 => h ((u8_eq _ 47 (by omega)).1 e2)) (ih (j + 1) (by omega) (by omega) ?_)
      have h3 : ((bl s).drop a).take (j + 1 - a) = ((bl s).drop a).take (j - a) ++ [(bl s)[j]] := by
        rw [show j + 1 - a = (j - a) + 1 by omega, List.take_succ_eq_append_getElem (by rw [List.length_drop]; omega)]
        congr 2
        rw [List.getElem_drop]
        congr 1
        omega
      rw [h3, List.mem_append, not_or]
      exact ⟨hno, by rw [List.mem_singleton]; exact fun e2 => h e2.symm⟩
theorem rNames_is {l : FS} (ht : Tree l) (d : ByteArray) (hd : d.size ≤ 140737488351232) : Ev (fun k => codesearchref25_Names.f k l d) (namesL l d) := by
  have hl := ht.len
  refine Ev.bind (rUnder_all l d (by omega)) ?_
  have hul : (underF l d).length ≤ 32 := Nat.le_trans (List.length_filter_le _ _) hl
  have hup := underF_prop ht.size d
  rw [namesL]
  generalize underF l d = us at hul hup
  have key : ∀ e (i : Nat), i + e = us.length → Ev (fun k => codesearchref25_Names.l0 k d (ones ((us.take i).map fun f => (⟨nameL d f.f0, 1⟩ : SF))) us (i : Int)) ((ones (us.map fun f => (⟨nameL d f.f0, 1⟩ : SF))).map (·.f0)) := by
    intro e
    induction e with
    | zero =>
      intro i hi
      rw [List.take_of_length_le (by omega)]
      have h1 := ones_len (us.map fun f => (⟨nameL d f.f0, 1⟩ : SF))
      rw [List.length_map] at h1
      refine Ev.step (fun k => by rw [codesearchref25_Names.l0, if_neg (by omega)]) ?_
      exact rNames_l2 _ (by omega) _ 0 (Nat.zero_add _)
    | succ e ih =>
      intro i hi
      have hlt : i < us.length := by omega
      have hn := ih (i + 1) (by omega)
      rw [← take_snoc us i hlt, List.map_append, List.map_cons, List.map_nil, ones_snoc] at hn
      obtain ⟨hu1, hu2⟩ := hup us[i] (List.getElem_mem _)
      have hfl := from_le hu1
      have h1 := ones_len ((us.take i).map fun f => (⟨nameL d f.f0, 1⟩ : SF))
      rw [List.length_map, List.length_take] at h1
      have := rNames_l1 d (ones ((us.take i).map fun f => (⟨nameL d f.f0, 1⟩ : SF))) us i (fromD d) hlt (by omega) hu2 (by omega) _ hn (us[i].f0.size - fromD d) (fromD d) (by omega) (Nat.le_refl _) (by rw [Nat.sub_self, List.take_zero]; simp)
      refine Ev.step (fun k => by rw [codesearchref25_Names.l0, if_pos (show (i : Int) < (us.length : Int) by omega)]) ?_
      by_cases e2 : bl d = []
      · have hz : d.size = 0 := by rw [← bl_len, e2]; rfl
        rw [fromD, if_pos e2] at this
        exact Ev.ite_neg (by omega) (Ev.step (fun k => by rw [codesearchref25_Names.j1]; rfl) this)
      · have hz : d.size ≠ 0 := fun h => e2 (List.eq_nil_of_length_eq_zero (by rw [bl_len, h]))
        rw [fromD, if_neg e2] at this
        refine Ev.ite_pos (by omega) (Ev.step (fun k => by rw [codesearchref25_Names.j1, w64 (by omega) (by omega)]; rfl) this)
  exact key us.length 0 (by omega)
end Go.Proofs.YtpnhamfodjfacaaDoor.Q
