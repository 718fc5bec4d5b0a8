/- VarintBack: for every input the law's pure function answers true. -/
import Derived.Test.YtihfpmociffpeaaStVarintBack
import Derived.Test.YtihfpmociffpeaaVx8
import Derived.Test.YtihfpmociffpeaaQAlive03
import Derived.Test.YtihfpmociffpeaaQBack03
import Derived.Test.YtihfpmociffpeaaQSame03
namespace Go.Proofs.Ytihfpmociffpeaa.Pure
open Go.RowKit Go.Proofs.Ytihfpmociffpeaa.V Go.Proofs.YtihfpmociffpeaaW.PrintWords Go.Proofs.YtihfpmociffpeaaW.PrintLast Go.Proofs.YtihfpmociffpeaaW.PrintMore Go.Proofs.Ytihfpmociffpeaa.Q Go.Proofs.Ytihfpmociffpeaa.StVarintBack
set_option linter.unusedVariables false
set_option linter.unusedSimpArgs false

theorem pstr_go (l : List Int) (s : ByteArray) (hl : l.length + 20 + s.size < 140737488355328) :
    varint_PutString.f l s = some (l ++ enc7 10 (s.size : Int) ++ bytesOf s) := by
  unfold varint_PutString.f
  have h := enc7_length 10 (s.size : Int)
  have hp := Put_go l (s.size : Int) (by omega) (by omega)
  rw [show max (s.size : Int) 0 = (s.size : Int) from by omega] at hp
  rw [hp, Option.bind_some, if_pos (by rw [List.length_append]; omega)]
theorem joined_go (a b : List Int) (h : a.length + b.length < 140737488355000) : Ev (fun k => codesearchlaw03_joined.f k a b) (a ++ b) := by
  have k2 : ∀ d (i : Nat), i + d = b.length → Ev (fun k => codesearchlaw03_joined.l1 k b (a ++ b.take i) (i : Int)) (a ++ b) := by
    intro d
    induction d with
    | zero =>
      intro i hi
      refine Ev.step (f := fun _ => some (a ++ b)) (fun k => ?_) (Ev.now _)
      rw [codesearchlaw03_joined.l1, if_neg (show ¬ (i : Int) < (b.length : Int) by omega), List.take_of_length_le (by omega)]
    | succ d ih =>
      intro i hi
      refine Ev.step (fun k => ?_) (ih (i + 1) (by omega))
      rw [codesearchlaw03_joined.l1, if_pos (show (i : Int) < (b.length : Int) by omega), if_pos (show (0 : Int) ≤ (i : Int) by omega), if_pos (show (a ++ b.take i).length < 140737488355328 by simp; omega), rd_nat b i (by omega), List.append_assoc, take_snoc b i (by omega), w64 (by omega) (by omega)]
      rfl
  have k1 : ∀ d (i : Nat), i + d = a.length → Ev (fun k => codesearchlaw03_joined.l0 k a b (a.take i) (i : Int)) (a ++ b) := by
    intro d
    induction d with
    | zero =>
      intro i hi
      have := k2 b.length 0 (by omega)
      rw [List.take_zero, List.append_nil] at this
      refine Ev.step (fun k => ?_) this
      rw [codesearchlaw03_joined.l0, if_neg (show ¬ (i : Int) < (a.length : Int) by omega), List.take_of_length_le (by omega)]
      rfl
    | succ d ih =>
      intro i hi
      refine Ev.step (fun k => ?_) (ih (i + 1) (by omega))
      rw [codesearchlaw03_joined.l0, if_pos (show (i : Int) < (a.length : Int) by omega), if_pos (show (0 : Int) ≤ (i : Int) by omega), if_pos (show (a.take i).length < 140737488355328 by simp; omega), rd_nat a i (by omega), take_snoc a i (by omega), w64 (by omega) (by omega)]
      rfl
  have := k1 a.length 0 (by omega)
  rw [List.take_zero] at this
  exact Ev.congr (fun k => by rw [codesearchlaw03_joined.f]; rfl) this

/-- What a field is put as. -/
def encF (f : S44) : List Int :=
  if Int.tmod f.f0 3 = 0 then enc7 10 f.f1 else if Int.tmod f.f0 3 = 1 then enc7 10 (f.f2.size : Int) ++ bytesOf f.f2 else enc7 10 (f.f3.length : Int) ++ encL 0 f.f3
/-- A field that the law looks at. -/
def okF (f : S44) : Prop :=
  0 ≤ f.f1 ∧ f.f1 ≤ 4611686018427387904 ∧ f.f2.size ≤ 1000 ∧ f.f3.length ≤ 1000 ∧ (∀ x ∈ f.f3.getLast?, x ≤ 4611686018427387904) ∧ (Int.tmod f.f0 3 ≠ 0 → Int.tmod f.f0 3 ≠ 1 → okL (-1) f.f3 = true)
theorem encF_length {f : S44} (h : okF f) : (encF f).length ≤ 10100 := by
  obtain ⟨_, _, h1, h2, _⟩ := h
  have e1 := enc7_length 10 f.f1
  have e2 := enc7_length 10 (f.f2.size : Int)
  have e3 := enc7_length 10 (f.f3.length : Int)
  have e4 := encL_length f.f3 0
  have e5 := bytesOf_length f.f2
  unfold encF
  split
  · omega
  · split
    · rw [List.length_append]; omega
    · rw [List.length_append]; omega
def encFs (l : List S44) : List Int := l.flatMap encF
theorem encFs_length {l : List S44} (h : ∀ f ∈ l, okF f) : (encFs l).length ≤ 10100 * l.length := by
  induction l with
  | nil => simp [encFs]
  | cons f l ih =>
    have h1 := encF_length (h f List.mem_cons_self)
    have h2 := ih (fun g hg => h g (List.mem_cons_of_mem _ hg))
    simp only [encFs, List.flatMap_cons, List.length_append, List.length_cons] at h2 ⊢
    omega
theorem rdF (l : List S44) (i : Nat) (h : i < l.length) : rd_T44 l (i : Int) = l[i] := by
  simp [rd_T44, List.getD_eq_getElem?_getD, List.getElem?_eq_getElem h]
theorem okL_last {lo : Int} {l : List Int} {M : Int} (h : okL lo l = true) (hm : ∀ x ∈ l.getLast?, x ≤ M) : ∀ x ∈ l, x ≤ M := by
  induction l generalizing lo with
  | nil => simp
  | cons a t ih =>
    simp only [okL, Bool.and_eq_true, decide_eq_true_eq] at h
    cases t with
    | nil =>
      intro x hx
      simp at hx
      subst hx
      exact hm x (by simp)
    | cons b s =>
      have hm' : ∀ x ∈ (b :: s).getLast?, x ≤ M := fun x hx => hm x (by rwa [List.getLast?_cons_cons])
      have ht := ih h.2 hm'
      intro x hx
      rcases List.mem_cons.1 hx with rfl | hx
      · have hb := ht b List.mem_cons_self
        have := h.2
        simp only [okL, Bool.and_eq_true, decide_eq_true_eq] at this
        omega
      · exact ht x hx
theorem back_read (fs : List S44) (b after : List Int) (hu : ∀ x ∈ b ++ encFs fs ++ after, 0 ≤ x ∧ x < 256) (hok : ∀ f ∈ fs, okF f) (hl : (b ++ encFs fs ++ after).length ≤ 1048576) (hn : fs.length ≤ 50) :
    ∀ d (i : Nat), i + d = fs.length →
      Ev (fun k => codesearchlaw03_VarintBack.l1 k fs (b ++ encFs fs ++ after) ((b ++ encFs fs).length : Int) ((b ++ encFs (fs.take i)).length : Int) (i : Int)) true := by
  intro d
  induction d with
  | zero =>
    intro i hi
    refine Ev.step (f := fun _ => some true) (fun k => ?_) (Ev.now _)
    rw [codesearchlaw03_VarintBack.l1, if_neg (show ¬ (i : Int) < (fs.length : Int) by omega), List.take_of_length_le (by omega)]
    simp
  | succ d ih =>
    intro i hi
    have hil : i < fs.length := by omega
    have hlt : (i : Int) < (fs.length : Int) := by omega
    have h0i : (0 : Int) ≤ (i : Int) := by omega
    have hw : wrap64 ((i : Int) + 1) = ((i + 1 : Nat) : Int) := by rw [w64 (by omega) (by omega)]; rfl
    have hbl : (b ++ encFs fs ++ after).length ≤ 140737488351232 := by omega
    have hbl2 : (b ++ encFs fs ++ after).length ≤ 17592186000000 := by omega
    have hf := hok fs[i] (List.getElem_mem _)
    obtain ⟨f1, f2, f3, f4, f5, f6⟩ := hf
    have hz2 : (fs[i].f2.size : Int) ≤ 4611686018427387904 := by omega
    have hz3 : (fs[i].f3.length : Int) ≤ 4611686018427387904 := by omega
    have hz4 : fs[i].f3.length ≤ 9223372036854775000 := by omega
    have hsplit : b ++ encFs fs ++ after = (b ++ encFs (fs.take i)) ++ (encF fs[i] ++ (encFs (fs.drop (i + 1)) ++ after)) := by
      have : encFs fs = encFs (fs.take i) ++ (encF fs[i] ++ encFs (fs.drop (i + 1))) := by
        have h1 : fs = fs.take i ++ fs[i] :: fs.drop (i + 1) := by rw [← drop_cons fs i hil, List.take_append_drop]
        exact (congrArg encFs h1).trans (by simp only [encFs, List.flatMap_append, List.flatMap_cons])
      rw [this]; simp
    have hnext : ((b ++ encFs (fs.take i)).length : Int) + ((encF fs[i]).length : Int) = ((b ++ encFs (fs.take (i + 1))).length : Int) := by
      rw [← take_snoc fs i hil]; simp only [encFs, List.flatMap_append, List.flatMap_cons, List.flatMap_nil, List.append_nil, List.length_append]; omega
    have hgo := ih (i + 1) (by omega)
    refine Ev.step (fun k => by rw [codesearchlaw03_VarintBack.l1]) (Ev.ite_pos hlt (Ev.ite_pos h0i ?_))
    rw [rdF fs i hil, hw]
    by_cases k0 : Int.tmod fs[i].f0 3 = 0
    · refine Ev.ite_pos k0 (Ev.bind (Get_go _ _ hbl hu) ?_)
      have e : encF fs[i] = enc7 10 fs[i].f1 := by rw [encF, if_pos k0]
      have hg := get7_enc (b ++ encFs (fs.take i)) (encFs (fs.drop (i + 1)) ++ after) fs[i].f1 f1 f2
      rw [← e, ← hsplit, hnext] at hg
      rw [hg]
      exact Ev.ite_pos rfl (Ev.ite_pos rfl hgo)
    · refine Ev.ite_neg k0 ?_
      by_cases k1 : Int.tmod fs[i].f0 3 = 1
      · refine Ev.ite_pos k1 (Ev.bind (GetString_go _ _ _ hbl hu) ?_)
        have e : encF fs[i] = enc7 10 (fs[i].f2.size : Int) ++ bytesOf fs[i].f2 := by rw [encF, if_neg k0, if_pos k1]
        have hg := getS_enc (b ++ encFs (fs.take i)) (encFs (fs.drop (i + 1)) ++ after) fs[i].f2 hz2 (fs[i].f2.size : Int) (Int.le_refl _)
        rw [← e, ← hsplit, hnext] at hg
        rw [hg]
        exact Ev.ite_pos rfl (Ev.ite_pos rfl hgo)
      · refine Ev.ite_neg k1 (Ev.bind (GetList_go _ _ _ hbl2 hu) ?_)
        have hokl := f6 k0 k1
        have e : encF fs[i] = enc7 10 (fs[i].f3.length : Int) ++ encL 0 fs[i].f3 := by rw [encF, if_neg k0, if_neg k1]
        have hg := getL_enc (b ++ encFs (fs.take i)) (encFs (fs.drop (i + 1)) ++ after) fs[i].f3 hz3 hokl (okL_last hokl f5) (fs[i].f3.length : Int) (Int.le_refl _)
        rw [← e, ← hsplit, hnext] at hg
        rw [hg]
        exact Ev.ite_pos rfl (Ev.bind (SameInts_self _ hz4) (Ev.ite_pos rfl hgo))
theorem enc_u8 {f : S44} (h : okF f) : ∀ x ∈ encF f, 0 ≤ x ∧ x < 256 := by
  obtain ⟨f1, f2, f3, f4, f5, f6⟩ := h
  have hen : ∀ y : Int, 0 ≤ y → y ≤ 4611686018427387904 → ∀ x ∈ enc7 10 y, 0 ≤ x ∧ x < 256 := fun y h0 h1 => enc7_range 10 y h0 (Int.lt_of_lt_of_le (show y < 18446744073709551616 by omega) (by decide))
  have hel : ∀ (l : List Int) (last : Int), 0 ≤ last → (∀ x ∈ l, x ≤ 4611686018427387904) → okL (last - 1) l = true → ∀ x ∈ encL last l, 0 ≤ x ∧ x < 256 := by
    intro l
    induction l with
    | nil => intro last _ _ _ x hx; simp [encL] at hx
    | cons a t ih =>
      intro last h0 hm hok x hx
      simp only [okL, Bool.and_eq_true, decide_eq_true_eq] at hok
      have ha := hm a List.mem_cons_self
      rcases List.mem_append.1 hx with hx | hx
      · exact hen _ (by omega) (by omega) x hx
      · refine ih a (by omega) (fun y hy => hm y (List.mem_cons_of_mem _ hy)) ?_ x hx
        have h2 := hok.2
        cases t with
        | nil => rfl
        | cons c s =>
          simp only [okL, Bool.and_eq_true, decide_eq_true_eq] at h2 ⊢
          exact ⟨by omega, h2.2⟩
  unfold encF
  split
  · exact hen _ f1 f2
  · rename_i k0
    split
    · intro x hx
      rcases List.mem_append.1 hx with hx | hx
      · exact hen _ (by omega) (by omega) x hx
      · simp only [bytesOf, List.mem_map] at hx
        obtain ⟨u, _, rfl⟩ := hx
        have := u.toNat_lt
        omega
    · rename_i k1
      have hokl := f6 k0 k1
      intro x hx
      rcases List.mem_append.1 hx with hx | hx
      · exact hen _ (by omega) (by omega) x hx
      · exact hel _ 0 (by omega) (okL_last hokl f5) (by simpa using hokl) x hx
/-- What the law's own tests say of a field. -/
def okF' (f : S44) : Prop :=
  0 ≤ f.f1 ∧ f.f1 ≤ 4611686018427387904 ∧ f.f2.size ≤ 1000 ∧ f.f3.length ≤ 1000 ∧ (∀ x ∈ f.f3.getLast?, x ≤ 4611686018427387904)
theorem back_write (fs : List S44) (b after : List Int) (hb : ∀ x ∈ b, 0 ≤ x ∧ x < 256) (ha : ∀ x ∈ after, 0 ≤ x ∧ x < 256) (hbl : b.length ≤ 1000) (hal : after.length ≤ 1000) (hn : fs.length ≤ 50)
    (hw : ∀ f ∈ fs, ∀ x ∈ f.f3, -9223372036854775808 ≤ x ∧ x ≤ 9223372036854775807) :
    ∀ d (i : Nat), i + d = fs.length → (∀ f ∈ fs.take i, okF f) →
      Ev (fun k => codesearchlaw03_VarintBack.l0 k b fs after (b ++ encFs (fs.take i)) (i : Int)) true := by
  intro d
  induction d with
  | zero =>
    intro i hi hok
    rw [List.take_of_length_le (by omega)] at hok ⊢
    have hl := encFs_length hok
    have hlen : (b ++ encFs fs ++ after).length ≤ 1048576 := by simp only [List.length_append]; omega
    refine Ev.step (fun k => by rw [codesearchlaw03_VarintBack.l0, if_neg (show ¬ (i : Int) < (fs.length : Int) by omega)]) (Ev.bind (joined_go _ _ (by simp only [List.length_append]; omega)) ?_)
    have := back_read fs b after (fun x hx => by
      rcases List.mem_append.1 hx with hx | hx
      · rcases List.mem_append.1 hx with hx | hx
        · exact hb x hx
        · obtain ⟨f, hf, hxf⟩ := List.mem_flatMap.1 hx
          exact enc_u8 (hok f hf) x hxf
      · exact ha x hx) hok hlen hn fs.length 0 (by omega)
    rw [List.take_zero, show b ++ encFs [] = b from by simp [encFs]] at this
    exact this
  | succ d ih =>
    intro i hi hok
    have hil : i < fs.length := by omega
    have hl := encFs_length hok
    have hl2 : (fs.take i).length ≤ 50 := by simp; omega
    have hws := hw fs[i] (List.getElem_mem _)
    have hwi : wrap64 ((i : Int) + 1) = ((i + 1 : Nat) : Int) := by rw [w64 (by omega) (by omega)]; rfl
    have hlast : ∀ x50 : Bool, (x50 = false → okF' fs[i]) → Ev (fun k => codesearchlaw03_VarintBack.j2 k b fs after (b ++ encFs (fs.take i)) (i : Int) x50 fs[i].f0 fs[i].f1 fs[i].f2 fs[i].f3) true := by
      intro x50 hx
      cases x50 with
      | true =>
        refine Ev.step (f := fun _ => some true) (fun k => ?_) (Ev.now _)
        rw [codesearchlaw03_VarintBack.j2, if_pos rfl]
      | false =>
        obtain ⟨f1, f2, f3, f4, f5⟩ := hx rfl
        refine Ev.step (fun k => by rw [codesearchlaw03_VarintBack.j2, if_neg (by decide), hwi]) ?_
        have next : okF fs[i] → Ev (fun k => codesearchlaw03_VarintBack.l0 k b fs after ((b ++ encFs (fs.take i)) ++ encF fs[i]) ((i + 1 : Nat) : Int)) true := by
          intro hokf
          have := ih (i + 1) (by omega) (fun f hf => by
            rw [← take_snoc fs i hil] at hf
            rcases List.mem_append.1 hf with hf | hf
            · exact hok f hf
            · rw [List.mem_singleton.1 hf]; exact hokf)
          rw [← take_snoc fs i hil, show b ++ encFs (fs.take i ++ [fs[i]]) = b ++ encFs (fs.take i) ++ encF fs[i] from by simp only [encFs, List.flatMap_append, List.flatMap_cons, List.flatMap_nil, List.append_nil, List.append_assoc]] at this
          exact this
        by_cases k0 : Int.tmod fs[i].f0 3 = 0
        · have hp := Put_go (b ++ encFs (fs.take i)) fs[i].f1 (by simp only [List.length_append]; omega) (by omega)
          rw [show max fs[i].f1 0 = fs[i].f1 from by omega] at hp
          refine Ev.ite_pos k0 (Ev.bind_eq hp ?_)
          have := next ⟨f1, f2, f3, f4, f5, fun h => absurd k0 h⟩
          rwa [encF, if_pos k0] at this
        · refine Ev.ite_neg k0 ?_
          by_cases k1 : Int.tmod fs[i].f0 3 = 1
          · refine Ev.ite_pos k1 (Ev.bind_eq (pstr_go _ _ (by simp only [List.length_append]; omega)) ?_)
            have := next ⟨f1, f2, f3, f4, f5, fun _ h => absurd k1 h⟩
            rw [encF, if_neg k0, if_pos k1] at this
            rwa [List.append_assoc]
          · refine Ev.ite_neg k1 (Ev.bind (PutList_go _ _ (by simp only [List.length_append]; omega) hws) ?_)
            unfold putL
            by_cases hokl : okL (-1) fs[i].f3 = true
            · rw [if_pos hokl]
              refine Ev.ite_pos rfl ?_
              have := next ⟨f1, f2, f3, f4, f5, fun _ _ => hokl⟩
              rw [encF, if_neg k0, if_neg k1] at this
              rwa [List.append_assoc]
            · rw [if_neg hokl]
              exact Ev.ite_neg (by decide) (Ev.now true)
    refine Ev.step (fun k => by rw [codesearchlaw03_VarintBack.l0, if_pos (show (i : Int) < (fs.length : Int) by omega), if_pos (show (0 : Int) ≤ (i : Int) by omega), rdF fs i hil]) ?_
    by_cases c1 : fs[i].f1 < 0
    · exact Ev.ite_pos c1 (hlast true (fun h => by cases h))
    refine Ev.ite_neg c1 ?_
    by_cases c2 : fs[i].f1 > 4611686018427387904
    · exact Ev.ite_pos c2 (hlast true (fun h => by cases h))
    refine Ev.ite_neg c2 ?_
    by_cases c3 : (fs[i].f2.size : Int) > 1000
    · exact Ev.ite_pos c3 (hlast true (fun h => by cases h))
    refine Ev.ite_neg c3 ?_
    by_cases c4 : (fs[i].f3.length : Int) > 1000
    · exact Ev.ite_pos c4 (hlast true (fun h => by cases h))
    refine Ev.ite_neg c4 ?_
    by_cases c5 : (fs[i].f3.length : Int) > 0
    · have e1 : wrap64 ((fs[i].f3.length : Int) - 1) = ((fs[i].f3.length - 1 : Nat) : Int) := by rw [w64 (by omega) (by omega)]; omega
      refine Ev.ite_pos c5 (Ev.congr (fun k => by rw [e1, rd_nat _ _ (show fs[i].f3.length - 1 < fs[i].f3.length by omega)]) (Ev.ite_pos (by omega) (Ev.ite_pos (by omega) (hlast _ ?_))))
      intro h
      refine ⟨by omega, by omega, by omega, by omega, ?_⟩
      intro x hx
      rw [List.getLast?_eq_getElem?, List.getElem?_eq_getElem (show fs[i].f3.length - 1 < fs[i].f3.length by omega)] at hx
      simp at hx h
      omega
    · refine Ev.ite_neg c5 (hlast false (fun _ => ⟨by omega, by omega, by omega, by omega, ?_⟩))
      intro x hx
      rw [List.eq_nil_of_length_eq_zero (show fs[i].f3.length = 0 by omega)] at hx
      simp at hx
theorem VarintBack : StVarintBack.Pure := by
  intro U b fs after hb hf ha
  refine Ev.rounds (r := true) ?_
  refine Ev.congr (fun k => by rw [codesearchlaw03_VarintBack.f]) (Ev.bind alive03 (Ev.ite_pos rfl ?_))
  have quit : Ev (fun k => codesearchlaw03_VarintBack.j0 k b fs after true) true := by
    refine Ev.step (f := fun _ => some true) (fun k => ?_) (Ev.now _)
    rw [codesearchlaw03_VarintBack.j0, if_pos rfl]
  by_cases c1 : (b.length : Int) > 1000
  · exact Ev.ite_pos c1 quit
  refine Ev.ite_neg c1 ?_
  by_cases c2 : (after.length : Int) > 1000
  · exact Ev.ite_pos c2 quit
  refine Ev.ite_neg c2 ?_
  by_cases c3 : (fs.length : Int) > 50
  · rw [decide_eq_true c3]; exact quit
  rw [decide_eq_false c3]
  refine Ev.step (fun k => by rw [codesearchlaw03_VarintBack.j0, if_neg (by decide)]) ?_
  have := back_write fs b after (fun x hx => wf_u8.1 (hb.2.2.2 x hx)) (fun x hx => wf_u8.1 (ha.2.2.2 x hx)) (by omega) (by omega) (by omega) (fun f hff x hx => wf_i64.1 ((hf.2.2.2 f hff).2.2.2.2.2.2 x hx)) fs.length 0 (by omega) (by simp)
  rw [List.take_zero, show b ++ encFs [] = b from by simp [encFs]] at this
  exact this
end Go.Proofs.Ytihfpmociffpeaa.Pure
