/- GroupSteady, over lists alone. -/
import Derived.Test.YtobdkgoapcbipaaGreatDoorStGroupSteady
import Derived.Test.YtobdkgoapcbipaaGreatDoorJQ43S
import Derived.Test.YtobdkgoapcbipaaGreatDoorJx22
namespace Go.Proofs.YtobdkgoapcbipaaGreatDoor.Pure
open Go.RowKit Go.Proofs.YtobdkgoapcbipaaGreatDoorW.PrintWords Go.Proofs.YtobdkgoapcbipaaGreatDoorW.PrintLast Go.Proofs.YtobdkgoapcbipaaGreatDoorW.PrintMore Go.Proofs.YtobdkgoapcbipaaGreatDoor.J Go.Proofs.YtobdkgoapcbipaaGreatDoor.Q
set_option linter.unusedVariables false
set_option linter.unusedSimpArgs false
/-- The document-free search of the statement. -/
def containsT (l : List GS) (t : ByteArray) : Nat → ByteArray → Bool
  | 0, s => decide (s = t)
  | d + 1, s => decide (s = t) || l.any fun g => decide (g.f0 = s) && g.f2.any (containsT l t d)
theorem contains_is (l : List GS) (hf : Few l) (t : ByteArray) : ∀ (d : Nat) (s : ByteArray), d ≤ 100 → Ev (fun k => l43_contains.f k l s t (d : Int)) (containsT l t d s) := by
  have hl := hf.len
  intro d
  induction d with
  | zero =>
    intro s _
    rw [containsT]
    by_cases c : s = t
    · rw [decide_eq_true c]; exact Ev.step (f := fun _ => some true) (fun k => by rw [l43_contains.f, if_pos (toList_eq_.2 c)]) (Ev.now _)
    · rw [decide_eq_false c]
      refine Ev.step (fun k => by rw [l43_contains.f, if_neg (fun h => c (toList_eq_.1 h))]) ?_
      have bad : Ev (fun k => l43_contains.j1 k l s t ((0 : Nat) : Int) 0 false) false := Ev.step (f := fun _ => some false) (fun k => by rw [l43_contains.j1, if_neg (by decide)]) (Ev.now _)
      by_cases c2 : (0 : Int) < (l.length : Int)
      · exact Ev.step (fun k => by rw [l43_contains.l0, if_pos c2, decide_eq_false (by omega)]) bad
      · exact Ev.step (fun k => by rw [l43_contains.l0, if_neg c2]) bad
  | succ d ih =>
    intro s hd
    rw [containsT]
    by_cases c : s = t
    · rw [decide_eq_true c, Bool.true_or]; exact Ev.step (f := fun _ => some true) (fun k => by rw [l43_contains.f, if_pos (toList_eq_.2 c)]) (Ev.now _)
    · rw [decide_eq_false c, Bool.false_or]
      have key : ∀ e (i : Nat), i + e = l.length → Ev (fun k => l43_contains.l0 k l s t ((d + 1 : Nat) : Int) (i : Int)) ((l.drop i).any fun g => decide (g.f0 = s) && g.f2.any (containsT l t d)) := by
        intro e
        induction e with
        | zero =>
          intro i hi
          rw [List.drop_of_length_le (by omega)]
          exact Ev.step (fun k => by rw [l43_contains.l0, if_neg (by omega)]) (Ev.step (f := fun _ => some false) (fun k => by rw [l43_contains.j1, if_neg (by decide)]) (Ev.now _))
        | succ e ihe =>
          intro i hi
          have hlt : i < l.length := by omega
          have hg := hf.groups l[i] (List.getElem_mem _)
          rw [List.drop_eq_getElem_cons hlt, any_cons]
          have hr := ihe (i + 1) (by omega)
          refine Ev.step (fun k => by rw [l43_contains.l0, if_pos (show (i : Int) < (l.length : Int) by omega), decide_eq_true (show ((d + 1 : Nat) : Int) > 0 by omega)]) (Ev.step (fun k => by rw [l43_contains.j1, if_pos rfl, if_pos (show (0 : Int) ≤ (i : Int) by omega), if_pos (show (i : Int) < (l.length : Int) by omega), rdG_nat l i hlt, w1 i (by omega)]) ?_)
          by_cases c2 : l[i].f0 = s
          · rw [decide_eq_true c2, Bool.true_and]
            refine Ev.ite_pos (toList_eq_.2 c2) ?_
            have inner : ∀ e2 (j : Nat), j + e2 = l[i].f2.length → Ev (fun k => l43_contains.l1 k l s t ((d + 1 : Nat) : Int) (i : Int) (j : Int)) ((l[i].f2.drop j).any (containsT l t d) || (l.drop (i + 1)).any fun g => decide (g.f0 = s) && g.f2.any (containsT l t d)) := by
              intro e2
              induction e2 with
              | zero =>
                intro j hj
                rw [List.drop_of_length_le (show l[i].f2.length ≤ j by omega), List.any_nil, Bool.false_or]
                exact Ev.step (fun k => by rw [l43_contains.l1, if_pos (show (0 : Int) ≤ (i : Int) by omega), if_pos (show (i : Int) < (l.length : Int) by omega), rdG_nat l i hlt, if_neg (by omega), w1 i (by omega)]) hr
              | succ e2 ih2 =>
                intro j hj
                have hj2 : j < l[i].f2.length := by omega
                rw [List.drop_eq_getElem_cons hj2, any_cons]
                refine Ev.step (fun k => by rw [l43_contains.l1, if_pos (show (0 : Int) ≤ (i : Int) by omega), if_pos (show (i : Int) < (l.length : Int) by omega), rdG_nat l i hlt, if_pos (by omega), if_pos (by omega), rdOf_nat _ _ j hj2, w1 j (by omega), w64 (by omega) (by omega), show ((d + 1 : Nat) : Int) - 1 = (d : Int) by omega]) (Ev.bind (ih (l[i].f2)[j] (by omega)) ?_)
                by_cases c3 : containsT l t d (l[i].f2)[j] = true
                · rw [c3, Bool.true_or, Bool.true_or]; exact Ev.ite_pos rfl (Ev.now _)
                · rw [Bool.eq_false_iff.2 c3, Bool.false_or]; exact Ev.ite_neg (by decide) (ih2 (j + 1) (by omega))
            have := inner _ 0 (by rw [Nat.zero_add])
            rw [List.drop_zero] at this
            exact this
          · rw [decide_eq_false c2, Bool.false_and, Bool.false_or]
            exact Ev.ite_neg (fun h => c2 (toList_eq_.1 h)) hr
      have := key l.length 0 (by omega)
      rw [List.drop_zero] at this
      exact Ev.step (fun k => by rw [l43_contains.f, if_neg (fun h => c (toList_eq_.1 h))]; rfl) this
theorem contains_all {l : List GS} (hn : NoLoop l) (hs : ∀ x, ∀ n ∈ subsG l x, n ∈ l.map (·.f0)) (t : ByteArray) : ∀ (d : Nat) (s : ByteArray), rankG (subsG l) (l.map (·.f0)) s ≤ d → s = t ∨ Q.Reach (subsG l) s t → containsT l t d s = true
  | 0, s, h, ht => by
    rcases ht with rfl | ht
    · exact decide_eq_true rfl
    · obtain ⟨b, hb, _⟩ := ht.first
      have := rankG_lt hs hn hb
      omega
  | d + 1, s, h, ht => by
    rw [containsT]
    rcases ht with rfl | ht
    · rw [decide_eq_true rfl, Bool.true_or]
    · obtain ⟨b, hb, h2⟩ := ht.first
      have := rankG_lt hs hn hb
      have h3 := contains_all hn hs t d b (by omega) h2
      rw [Bool.or_eq_true]
      right
      rcases h4 : findG l s with _ | g
      · rw [subs_none h4] at hb; cases hb
      · rw [subs_some h4] at hb
        obtain ⟨h5, h6⟩ := find_mem h4
        exact List.any_eq_true.2 ⟨g, h5, by rw [decide_eq_true h6, Bool.true_and]; exact List.any_eq_true.2 ⟨b, hb, h3⟩⟩
theorem find_set (l : List GS) (g : GS) (y : ByteArray) (hy : y ≠ g.f0) : findG (setT l g) y = findG l y := by
  have hd : decide (g.f0 = y) = false := decide_eq_false (fun e => hy e.symm)
  rw [setT]
  rcases idx_spec l g.f0 with ⟨h1, h2⟩ | ⟨a, ha, h2, h1, h3, h4⟩
  · rw [h2, if_pos (by decide), findG, findG, List.find?_append, List.find?_cons, hd]
    simp
  · rw [h2, if_neg (by omega), Int.toNat_natCast, findG, findG]
    have hd2 : decide (l[a].f0 = y) = false := decide_eq_false (fun e => hy (by rw [← e, h3]))
    have e1 : l = l.take a ++ l[a] :: l.drop (a + 1) := by rw [← List.drop_eq_getElem_cons ha, List.take_append_drop]
    rw [List.set_eq_take_append_cons_drop, if_pos ha, List.find?_append, List.find?_cons, hd]
    conv => rhs; rw [e1]
    rw [List.find?_append, List.find?_cons, hd2]
theorem steady_users {l : List GS} {g : GS} {x : ByteArray} (hx : x ≠ g.f0) (hr : ¬ Q.Reach (subsG (setT l g)) x g.f0) : usersT (setT l g) x = usersT l x := by
  have hs : ∀ y, y ≠ g.f0 → subsG (setT l g) y = subsG l y := fun y hy => by rw [subsG, subsG, find_set l g y hy]
  have hu : ∀ y, y ≠ g.f0 → usersG (setT l g) y = usersG l y := fun y hy => by rw [usersG, usersG, find_set l g y hy]
  have a : ∀ y, Q.Reach (subsG (setT l g)) x y → Q.Reach (subsG l) x y := fun y h => by
    induction h with
    | one e => rw [hs x hx] at e; exact .one e
    | more e h ih => rw [hs _ (fun e2 => hr (e2 ▸ h))] at e; exact .more e ih
  have b : ∀ y, Q.Reach (subsG l) x y → Q.Reach (subsG (setT l g)) x y := fun y h => by
    induction h with
    | one e => rw [← hs x hx] at e; exact .one e
    | more e h ih => rw [← hs _ (fun e2 => hr (e2 ▸ ih))] at e; exact .more e ih
  refine srt_ext (usersT_srt _ _) (usersT_srt _ _) (fun z => ?_)
  rw [mem_usersT, mem_usersT, hu x hx]
  constructor
  · rintro (h | ⟨n, h1, h2⟩)
    · exact .inl h
    · rw [hu n (fun e => hr (e ▸ h1))] at h2; exact .inr ⟨n, a n h1, h2⟩
  · rintro (h | ⟨n, h1, h2⟩)
    · exact .inl h
    · have h3 := b n h1
      rw [← hu n (fun e => hr (e ▸ h3))] at h2; exact .inr ⟨n, h3, h2⟩
theorem mem_set_self (l : List GS) (g : GS) : g ∈ setT l g := by
  rw [setT]
  rcases idx_spec l g.f0 with ⟨h1, h2⟩ | ⟨a, ha, h2, h1, h3, h4⟩
  · rw [h2, if_pos (by decide)]; exact List.mem_append_right _ List.mem_cons_self
  · rw [h2, if_neg (by omega), Int.toNat_natCast]; exact List.mem_set ha g
def sameN (s : ByteArray) (l : List GS) : List GS := l.filter fun g => decide (g.f0 = s)
theorem sameN_one {m : List GS} (hn : (m.map (·.f0)).Nodup) {g : GS} (hg : g ∈ m) : (sameN g.f0 m).length = 1 := by
  obtain ⟨a, ha, rfl⟩ := List.mem_iff_getElem.1 hg
  have hsplit : m = m.take a ++ m[a] :: m.drop (a + 1) := by rw [← List.drop_eq_getElem_cons ha, List.take_append_drop]
  have hn2 : ((m.take a ++ m[a] :: m.drop (a + 1)).map (·.f0)).Nodup := by rw [← hsplit]; exact hn
  rw [List.map_append, List.map_cons] at hn2
  obtain ⟨_, h2, h3⟩ := List.nodup_append.1 hn2
  have e1 : sameN m[a].f0 (m.take a) = [] := List.filter_eq_nil_iff.2 (fun g hg e => h3 g.f0 (List.mem_map.2 ⟨g, hg, rfl⟩) m[a].f0 List.mem_cons_self (of_decide_eq_true e))
  have e2 : sameN m[a].f0 (m.drop (a + 1)) = [] := List.filter_eq_nil_iff.2 (fun g hg e => (List.nodup_cons.1 h2).1 (by rw [← of_decide_eq_true e]; exact List.mem_map.2 ⟨g, hg, rfl⟩))
  have : sameN m[a].f0 m = sameN m[a].f0 (m.take a ++ m[a] :: m.drop (a + 1)) := by rw [← hsplit]
  rw [this, sameN, List.filter_append, List.filter_cons_of_pos (by simp)]
  rw [sameN] at e1 e2
  rw [e1, e2]; rfl
theorem GroupSteady : StGroupSteady.Pure := by
  intro U l g hl hg
  have none_ : ∀ b, b = true → Ev (fun k => l43_GroupSteady.j0 k l b g.f0 g.f1 g.f2) true := fun b hb => Ev.step (f := fun _ => some true) (fun k => by rw [l43_GroupSteady.j0, if_pos hb]) (Ev.now _)
  refine Ev.rounds (Ev.congr (fun k => rfl) (Ev.bind alive43 (Ev.ite_pos rfl (Ev.bind (few_is l) ?_))))
  by_cases h1 : fewB l = true
  · rw [h1]
    obtain ⟨n1, f1, hf⟩ := fewB_of h1
    refine Ev.ite_pos rfl ?_
    by_cases h3 : (l.length : Int) > 6
    · exact Ev.ite_pos h3 (none_ _ rfl)
    refine Ev.ite_neg h3 (Ev.bind (few_is [g]) ?_)
    by_cases h2 : fewB [g] = true
    · rw [h2]
      refine Ev.ite_pos rfl (Ev.bind (rRight_is l hf) ?_)
      by_cases h4 : rightT l = 0
      · have hgl := good_of h4
        obtain ⟨_, f2, _⟩ := fewB_of h2
        have hgf := (fitG_iff g).1 (f2 g List.mem_cons_self)
        have hfs := setT_few n1 f1 (f2 g List.mem_cons_self)
        have hml := setT_len l g
        rw [show (rightT l != 0) = false by rw [h4]; rfl]
        refine Ev.step (fun k => by rw [l43_GroupSteady.j0, if_neg (by decide)]) (Ev.bind (Set_is l g n1 hfs) ?_)
        rw [setR]
        by_cases h5 : rightT (setT l g) = 0
        · rw [if_pos h5]
          refine Ev.ite_pos rfl ?_
          have hgm := good_of h5
          have hsub : ∀ x, ∀ n ∈ subsG (setT l g) x, n ∈ (setT l g).map (·.f0) := fun x n hn => by
            rcases h6 : findG (setT l g) x with _ | y
            · rw [subs_none h6] at hn; cases hn
            · rw [subs_some h6] at hn
              obtain ⟨z, hz⟩ := Option.isSome_iff_exists.1 (hgm.subs y (find_mem h6).1 n hn)
              exact List.mem_map.2 ⟨z, (find_mem hz).1, (find_mem hz).2⟩
          have hself := mem_set_self l g
          have key : ∀ d (i : Nat), i + d = (setT l g).length → Ev (fun k => l43_GroupSteady.l0 k l (setT l g) ((sameN g.f0 ((setT l g).take i)).length : Int) (i : Int) g.f0 g.f1 g.f2) true := by
            intro d
            induction d with
            | zero =>
              intro i hi
              rw [List.take_of_length_le (by omega), sameN_one hgm.names hself]
              refine Ev.step (fun k => by rw [l43_GroupSteady.l0, if_neg (by omega), if_pos (by decide)]) (Ev.bind (Right_is _ hfs) ?_)
              rw [show (rightT (setT l g) != 0) = false by rw [h5]; rfl]
              refine Ev.step (fun k => by rw [l43_GroupSteady.j2, if_neg (by decide)]) ?_
              rcases idx_spec l g.f0 with ⟨h6, h7⟩ | ⟨a, ha, h7, h6, h8, h9⟩
              · have e : setT l g = l ++ [g] := by rw [setT, h7, if_pos (by decide)]
                refine Ev.ite_neg (by rw [e, List.length_append, List.length_singleton]; omega) (Ev.bind (Drop_is _ hfs g.f0) ?_)
                have hfi : (findG (setT l g) g.f0).isSome = true := List.find?_isSome.2 ⟨g, hself, decide_eq_true rfl⟩
                have hh : heldB g.f0 (setT l g) = false := by
                  refine List.any_eq_false.2 (fun x hx hm => ?_)
                  have hm := of_decide_eq_true hm
                  rcases mem_setT hx with hx | rfl
                  · have := hgl.subs x hx _ hm
                    rw [h6] at this; cases this
                  · obtain ⟨j, hj, he⟩ := List.mem_iff_getElem.1 hself
                    have hfx := find_at hgm.names j hj
                    rw [he] at hfx
                    exact hgm.noLoop x.f0 (.one (by rw [subs_some hfx]; exact hm))
                have hk : keepG g.f0 (setT l g) = l := by
                  rw [e, keepG, List.filter_append, List.filter_cons_of_neg (by simp), List.filter_nil, List.append_nil]
                  refine keepG_all (fun x hx ex => ?_)
                  exact List.find?_eq_none.1 h6 x hx (decide_eq_true ex)
                rw [dropT, if_pos hfi, hh, if_neg (by decide), hk]
                exact Ev.ite_pos rfl (Ev.bind (SameG_few hf) (Ev.now _))
              · have e : setT l g = l.set a g := by rw [setT, h7, if_neg (by omega), Int.toNat_natCast]
                exact Ev.ite_pos (by rw [e, List.length_set]) (Ev.now _)
            | succ d ih =>
              intro i hi
              have hlt : i < (setT l g).length := by omega
              have hcl : (sameN g.f0 ((setT l g).take i)).length ≤ i := by
                have := List.length_filter_le (fun x : GS => decide (x.f0 = g.f0)) ((setT l g).take i)
                rw [List.length_take] at this
                rw [sameN]; omega
              have hstep : (sameN g.f0 ((setT l g).take (i + 1))).length = (sameN g.f0 ((setT l g).take i)).length + if (setT l g)[i].f0 = g.f0 then 1 else 0 := by
                rw [List.take_succ_eq_append_getElem hlt, sameN, sameN, List.filter_append, List.length_append]
                congr 1
                by_cases c : (setT l g)[i].f0 = g.f0
                · rw [if_pos c, List.filter_cons_of_pos (by simpa using c)]; rfl
                · rw [if_neg c, List.filter_cons_of_neg (by simpa using c)]; rfl
              have hr := ih (i + 1) (by omega)
              rw [hstep] at hr
              refine Ev.step (fun k => by rw [l43_GroupSteady.l0, if_pos (show (i : Int) < ((setT l g).length : Int) by omega), if_pos (show (0 : Int) ≤ (i : Int) by omega), rdG_nat (setT l g) i hlt, w1 i (by omega), w1 _ (by omega)]) ?_
              by_cases c : (setT l g)[i].f0 = g.f0
              · rw [if_pos c] at hr
                have e : (setT l g)[i] = g := by
                  obtain ⟨j, hj, he⟩ := List.mem_iff_getElem.1 hself
                  have : i = j := (List.getElem_inj (h₀ := by rw [List.length_map]; exact hlt) (h₁ := by rw [List.length_map]; exact hj) hgm.names).1 (by rw [List.getElem_map, List.getElem_map, he]; exact c)
                  subst this; exact he
                refine Ev.ite_pos (toList_eq_.2 c) ?_
                rw [e]
                exact Ev.bind (SameGroup_self g (by omega) (by omega)) (Ev.ite_pos rfl hr)
              · rw [if_neg c, Nat.add_zero] at hr
                refine Ev.ite_neg (fun h => c (toList_eq_.1 h)) (Ev.bind (contains_is _ hfs g.f0 7 _ (by omega)) ?_)
                by_cases c2 : containsT (setT l g) g.f0 7 (setT l g)[i].f0 = true
                · exact Ev.ite_pos c2 hr
                · have hnr : ¬ Q.Reach (subsG (setT l g)) (setT l g)[i].f0 g.f0 := fun h => c2 (contains_all hgm.noLoop hsub g.f0 7 _ (by
                    have := rankG_le (R := subsG (setT l g)) (U := (setT l g).map (·.f0)) (setT l g)[i].f0
                    rw [List.length_map] at this; omega) (.inr h))
                  have U2 := Users_is l hf (setT l g)[i].f0
                  rw [← steady_users c hnr] at U2
                  have hul := usersT_len hfs (setT l g)[i].f0
                  exact Ev.ite_neg c2 (Ev.bind (Users_is _ hfs _) (Ev.bind U2 (Ev.bind (Same_self _ (by omega)) (Ev.ite_pos rfl hr))))
          exact key (setT l g).length 0 (by omega)
        · rw [if_neg h5]
          exact Ev.ite_neg h5 (Ev.now _)
      · exact none_ _ (bne_iff_ne.2 h4)
    · rw [show fewB [g] = false by simpa using h2]
      exact Ev.ite_neg (by decide) (none_ _ rfl)
  · rw [show fewB l = false by simpa using h1]
    exact Ev.ite_neg (by decide) (none_ _ rfl)
end Go.Proofs.YtobdkgoapcbipaaGreatDoor.Pure
