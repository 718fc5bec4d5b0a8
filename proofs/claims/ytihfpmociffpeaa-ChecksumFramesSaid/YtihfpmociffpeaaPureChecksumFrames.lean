/- ChecksumFrames: for every input the law's pure function answers true. -/
import Derived.Test.YtihfpmociffpeaaStChecksumFrames
import Derived.Test.YtihfpmociffpeaaCQAlive04
import Derived.Test.YtihfpmociffpeaaCQForm
import Derived.Test.YtihfpmociffpeaaCQRef03
namespace Go.Proofs.Ytihfpmociffpeaa.Pure
open Go.RowKit Go.Proofs.Ytihfpmociffpeaa.C Go.Proofs.YtihfpmociffpeaaW.PrintWords Go.Proofs.YtihfpmociffpeaaW.PrintLast Go.Proofs.YtihfpmociffpeaaW.PrintMore Go.Proofs.Ytihfpmociffpeaa.Q Go.Proofs.Ytihfpmociffpeaa.StChecksumFrames
set_option linter.unusedVariables false
set_option linter.unusedSimpArgs false

theorem add_w (x y : Nat) (h : x + y ≤ 100000) : wrap64 ((x : Int) + (y : Int)) = ((x + y : Nat) : Int) := by rw [w64 (by omega) (by omega)]; omega
theorem loop_go (x0 x1 x2 pt : List Int) (at_ x10 : Int) (tl : Bool) (u v w : List Int) (hvp : v.length = pt.length) (hu : (u.length : Int) ≤ 5000) (hp4 : pt.length ≤ 4) (ho : wrap64 (x10 + at_) = (u.length : Int))
    (fin : Ev (fun k => codesearchlaw04_ChecksumFrames.l0 k (u ++ mixL v pt ++ w) (x0.length : Int) x10 (pt.all (· == 0)) (pt.length : Int) x0 x1 x2 at_ pt tl) true) :
    ∀ d i : Nat, i + d = pt.length → Ev (fun k => codesearchlaw04_ChecksumFrames.l0 k (u ++ (mixL v pt).take i ++ v.drop i ++ w) (x0.length : Int) x10 ((pt.take i).all (· == 0)) (i : Int) x0 x1 x2 at_ pt tl) true := by
  have hl := mixL_length hvp
  intro d
  induction d with
  | zero =>
    intro i hi
    rw [List.take_of_length_le (show (mixL v pt).length ≤ i by omega), List.drop_of_length_le (show v.length ≤ i by omega), List.take_of_length_le (show pt.length ≤ i by omega), List.append_nil]
    have hi' : i = pt.length := by omega
    rw [hi']
    exact fin
  | succ d ih =>
    intro i hi
    have hm : i < (mixL v pt).length := by omega
    have hv : i < v.length := by omega
    have hpt : i < pt.length := by omega
    have hx : (mixL v pt)[i] = x8 v[i] pt[i] := by simp [mixL]
    have hlen : (u ++ (mixL v pt).take i).length = u.length + i := by rw [List.length_append, List.length_take]; omega
    have e1 : wrap64 ((u.length : Int) + (i : Int)) = ((u.length + i : Nat) : Int) := by rw [w64 (by omega) (by omega)]; omega
    have e2 : wrap64 ((i : Int) + 1) = ((i + 1 : Nat) : Int) := by rw [w64 (by omega) (by omega)]; omega
    have eb : u ++ (mixL v pt).take i ++ v.drop i ++ w = (u ++ (mixL v pt).take i) ++ v[i] :: (v.drop (i + 1) ++ w) := by
      rw [drop_cons v i hv]; simp only [List.append_assoc, List.cons_append]
    have ea : (u ++ (mixL v pt).take i) ++ (x8 v[i] pt[i]) :: (v.drop (i + 1) ++ w) = u ++ (mixL v pt).take (i + 1) ++ v.drop (i + 1) ++ w := by
      rw [← take_snoc (mixL v pt) i hm, hx]; simp only [List.append_assoc, List.cons_append, List.nil_append]
    have hr := rd_mid (u ++ (mixL v pt).take i) (v.drop (i + 1) ++ w) v[i]
    have hs := set_mid (u ++ (mixL v pt).take i) (v.drop (i + 1) ++ w) v[i] (x8 v[i] pt[i])
    rw [hlen] at hr hs
    have hb : ((u.length + i : Nat) : Int) < ((u ++ (mixL v pt).take i ++ v[i] :: (v.drop (i + 1) ++ w)).length : Int) := by
      rw [List.length_append, hlen, List.length_cons]; omega
    have hall : (pt.take (i + 1)).all (· == 0) = ((pt.take i).all (· == 0) && (pt[i] == 0)) := by
      rw [← take_snoc pt i hpt, List.all_append]; simp
    have hih := ih (i + 1) (by omega)
    rw [hall, ← ea] at hih
    rw [eb]
    have c0 : (i : Int) < (pt.length : Int) := by omega
    have c1 : (0 : Int) ≤ ((u.length + i : Nat) : Int) := Int.natCast_nonneg _
    have c2 : (0 : Int) ≤ (i : Int) := Int.natCast_nonneg _
    have hrp := rd_nat pt i hpt
    clear ih fin eb ea hall hx hlen hm hl
    refine Ev.step (fun k => ?_) hih
    rw [codesearchlaw04_ChecksumFrames.l0, if_pos c0, ho, e1, if_pos c1, if_pos hb, if_pos c2, Option.bind_some, hr, hrp, e2, Int.toNat_natCast, hs]
    by_cases hf : (pt.take i).all (· == 0) = true
    · rw [if_pos hf, hf, Bool.true_and]
    · rw [if_neg hf, Bool.eq_false_iff.2 hf, Bool.false_and]
theorem fin_go (x0 x1 x2 pt : List Int) (at_ x10 : Int) (tl : Bool) (b : List Int) (hb : b.length ≤ 5000) (hr : ∀ x ∈ b, 0 ≤ x ∧ x < 256)
    (h : pt.all (· == 0) = false → openL b (x0.length : Int) (x1.length : Int) = ([], 0, 6)) :
    Ev (fun k => codesearchlaw04_ChecksumFrames.l0 k b (x0.length : Int) x10 (pt.all (· == 0)) (pt.length : Int) x0 x1 x2 at_ pt tl) true := by
  refine Ev.step (fun k => by rw [codesearchlaw04_ChecksumFrames.l0, if_neg (by omega)]) (Ev.bind (Open_go b (x0.length : Int) (x1.length : Int) (by omega) hr) ?_)
  by_cases hf : pt.all (· == 0) = true
  · exact Ev.ite_pos hf (Ev.now _)
  · refine Ev.ite_neg hf ?_
    rw [h (Bool.eq_false_iff.2 hf)]
    exact Ev.ite_pos rfl (Ev.ite_pos rfl (Ev.now _))
theorem split3 (l : List Int) (i n : Nat) (h : i + n ≤ l.length) : ∃ p v q, l = p ++ v ++ q ∧ p.length = i ∧ v.length = n := by
  refine ⟨l.take i, (l.drop i).take n, (l.drop i).drop n, ?_, ?_, ?_⟩
  · rw [List.append_assoc, List.take_append_drop, List.take_append_drop]
  · rw [List.length_take]; omega
  · rw [List.length_take, List.length_drop]; omega
theorem app_range {p q : List Int} (hp : ∀ x ∈ p, 0 ≤ x ∧ x < 256) (hq : ∀ x ∈ q, 0 ≤ x ∧ x < 256) : ∀ x ∈ p ++ q, 0 ≤ x ∧ x < 256 := fun x hx => (List.mem_append.1 hx).elim (hp x) (hq x)

theorem frames (a c z pt : List Int) (at_ : Int) (tl : Bool) (ha : ∀ x ∈ a, 0 ≤ x ∧ x < 256) (hc : ∀ x ∈ c, 0 ≤ x ∧ x < 256) (hz : ∀ x ∈ z, 0 ≤ x ∧ x < 256) (hp : ∀ x ∈ pt, 0 ≤ x ∧ x < 256)
    (hat : -9223372036854775808 ≤ at_ ∧ at_ ≤ 9223372036854775807) : Ev (fun k => codesearchlaw04_ChecksumFrames.f k a c z at_ pt tl) true := by
  refine Ev.congr (fun k => by rw [codesearchlaw04_ChecksumFrames.f]) (Ev.bind alive04 (Ev.ite_pos rfl ?_))
  have quit : Ev (fun k => codesearchlaw04_ChecksumFrames.j0 k true a c z at_ pt tl) true := by
    refine Ev.step (f := fun _ => some true) (fun k => ?_) (Ev.now _)
    rw [codesearchlaw04_ChecksumFrames.j0, if_pos rfl]
  by_cases c1 : (a.length : Int) > 600
  · exact Ev.ite_pos c1 quit
  refine Ev.ite_neg c1 ?_
  by_cases c2 : (c.length : Int) > 600
  · exact Ev.ite_pos c2 quit
  refine Ev.ite_neg c2 ?_
  by_cases c3 : (z.length : Int) > 600
  · exact Ev.ite_pos c3 quit
  refine Ev.ite_neg c3 ?_
  by_cases c4 : (pt.length : Int) > 4
  · rw [decide_eq_true c4]; exact quit
  rw [decide_eq_false c4]
  clear quit
  have ka : a.length ≤ 600 := by omega
  have kc : c.length ≤ 600 := by omega
  have kz : z.length ≤ 600 := by omega
  have kp : pt.length ≤ 4 := by omega
  clear c1 c2 c3 c4
  obtain ⟨h, hh⟩ : ∃ h, h = enc7 10 (c.length : Int) := ⟨_, rfl⟩
  have kh : h.length ≤ 10 := by rw [hh]; exact enc7_length 10 _
  have hr : ∀ x ∈ h, 0 ≤ x ∧ x < 256 := by rw [hh]; exact head_range c.length (by omega)
  have hhc := app_range hr hc
  obtain ⟨m, hm⟩ : ∃ m, m = crcE 0 (h ++ c) := ⟨_, rfl⟩
  have hmlt : m < 2 ^ 32 := by rw [hm]; exact crcE_lt (by decide) hhc
  obtain ⟨s, hs⟩ : ∃ s, s = four4 m := ⟨_, rfl⟩
  have ks : s.length = 4 := by rw [hs]; rfl
  have hsr : ∀ x ∈ s, 0 ≤ x ∧ x < 256 := by rw [hs]; exact four4_range m
  have hseal : checksum_Seal.f c = some (h ++ c ++ s) := by
    rw [Seal_go c (by omega) hc, sealL, hs, hm, hh]
  have hput := rPut_go [] (c.length : Int) (by simp) (by omega)
  rw [show max (c.length : Int) 0 = (c.length : Int) by omega, List.nil_append, ← hh] at hput
  -- a change of the content or of the checksum
  have change : ∀ (u v w : List Int) (x10 : Int), v.length = pt.length → u.length ≤ 2000 → w.length ≤ 2000 → (∀ x ∈ u, 0 ≤ x ∧ x < 256) → (∀ x ∈ v, 0 ≤ x ∧ x < 256) → (∀ x ∈ w, 0 ≤ x ∧ x < 256) → wrap64 (x10 + at_) = (u.length : Int) →
      u ++ v ++ w = a ++ (h ++ c) ++ s ++ z → (v ≠ mixL v pt → openL (u ++ mixL v pt ++ w) (a.length : Int) (c.length : Int) = ([], 0, 6)) →
      Ev (fun k => codesearchlaw04_ChecksumFrames.l0 k (a ++ (h ++ c) ++ s ++ z) (a.length : Int) x10 true 0 a c z at_ pt tl) true := by
    intro u v w x10 hvp ku kw hu hv hw ho hb hopen
    have hml := mixL_length hvp
    have hmr := mixL_range hv hp
    have hfin := fin_go a c z pt at_ x10 tl (u ++ mixL v pt ++ w) (by simp only [List.length_append]; omega) (app_range (app_range hu hmr) hw) (fun hf => hopen (fun he => by
      have := mixL_same hvp hv hp he
      rw [hf] at this; cases this))
    have hl := loop_go a c z pt at_ x10 tl u v w hvp (by omega) kp ho hfin pt.length 0 (by omega)
    rw [List.take_zero, List.take_zero, List.drop_zero, List.append_nil, hb] at hl
    exact hl
  have part : ∀ (x10 : Int) (n : Nat) (p t q : List Int), p.length ≤ 1300 → q.length ≤ 700 → t.length ≤ 700 → (∀ x ∈ p, 0 ≤ x ∧ x < 256) → (∀ x ∈ t, 0 ≤ x ∧ x < 256) → (∀ x ∈ q, 0 ≤ x ∧ x < 256) → x10 = (p.length : Int) → p ++ t ++ q = a ++ (h ++ c) ++ s ++ z →
      (∀ t1 v t2 : List Int, t = t1 ++ v ++ t2 → v.length = pt.length → v ≠ mixL v pt → openL (p ++ (t1 ++ mixL v pt ++ t2) ++ q) (a.length : Int) (c.length : Int) = ([], 0, 6)) →
      Ev (fun k => codesearchlaw04_ChecksumFrames.j2 k (a ++ (h ++ c) ++ s ++ z) (a.length : Int) x10 ((p.length + t.length : Nat) : Int) a c z at_ pt tl) true := by
    intro x10 n p t q kp' kq kt hpr htr hqr hx hb hopen
    have quit : Ev (fun k => codesearchlaw04_ChecksumFrames.j3 k (a ++ (h ++ c) ++ s ++ z) (a.length : Int) x10 true a c z at_ pt tl) true := by
      refine Ev.step (f := fun _ => some true) (fun k => ?_) (Ev.now _)
      rw [codesearchlaw04_ChecksumFrames.j3, if_pos rfl]
    have ew : wrap64 (((p.length + t.length : Nat) : Int) - x10) = (t.length : Int) := by rw [w64 (by omega) (by omega)]; omega
    by_cases d1 : at_ < 0
    · refine Ev.step (fun k => ?_) quit
      rw [codesearchlaw04_ChecksumFrames.j2, if_pos d1]
    by_cases d2 : at_ > (t.length : Int)
    · refine Ev.step (fun k => ?_) quit
      rw [codesearchlaw04_ChecksumFrames.j2, if_neg d1, ew, if_pos d2]
    have ew2 : wrap64 ((t.length : Int) - at_) = (t.length : Int) - at_ := w64 (by omega) (by omega)
    by_cases d3 : (pt.length : Int) > (t.length : Int) - at_
    · refine Ev.step (fun k => ?_) quit
      rw [codesearchlaw04_ChecksumFrames.j2, if_neg d1, ew, if_neg d2, ew2, decide_eq_true d3]
    obtain ⟨t1, v, t2, ht, k1, k2⟩ := split3 t at_.toNat pt.length (by omega)
    have kt' : t1.length + v.length + t2.length = t.length := by rw [ht]; simp only [List.length_append]
    have r1 : ∀ x ∈ t1, 0 ≤ x ∧ x < 256 := fun x hx => htr x (by rw [ht]; simp [hx])
    have r2 : ∀ x ∈ v, 0 ≤ x ∧ x < 256 := fun x hx => htr x (by rw [ht]; simp [hx])
    have r3 : ∀ x ∈ t2, 0 ≤ x ∧ x < 256 := fun x hx => htr x (by rw [ht]; simp [hx])
    have hch := change (p ++ t1) v (t2 ++ q) x10 k2 (by rw [List.length_append]; omega) (by rw [List.length_append]; omega) (app_range hpr r1) r2 (app_range r3 hqr) (by rw [w64 (by omega) (by omega), List.length_append]; omega)
      (by rw [← hb, ht]; simp only [List.append_assoc]) (fun hne => by
        have := hopen t1 v t2 ht k2 hne
        rw [← this]; congr 1; simp only [List.append_assoc])
    refine Ev.step (fun k => ?_) (Ev.step (g := fun k => codesearchlaw04_ChecksumFrames.j3 k (a ++ (h ++ c) ++ s ++ z) (a.length : Int) x10 false a c z at_ pt tl) (fun k => ?_) hch)
    · rw [codesearchlaw04_ChecksumFrames.j2, if_neg d1, ew, if_neg d2, ew2, decide_eq_false d3]
    · rw [codesearchlaw04_ChecksumFrames.j3, if_neg (by decide)]
  have eall : a ++ (h ++ c ++ s) ++ z = a ++ (h ++ c) ++ s ++ z := by simp only [List.append_assoc]
  have hwhole : openL (a ++ (h ++ c) ++ s ++ z) (a.length : Int) (c.length : Int) = (c, ((a.length + h.length + c.length + 4 : Nat) : Int), 0) := by
    have := openL_form a c s z ks (by omega)
    rw [← hh, ← hm, if_pos hs] at this
    exact this
  have last : Ev (fun k => codesearchlaw04_ChecksumFrames.j1 k (h.length : Int) (a ++ (h ++ c) ++ s ++ z) (a.length : Int) false a c z at_ pt tl) true := by
    have n1 : a.length + h.length ≤ 100000 := by omega
    have n2 : a.length + h.length + c.length ≤ 100000 := by omega
    have n3 : a.length + h.length + c.length + 4 ≤ 100000 := by omega
    by_cases ht : tl = true
    · have hq := part ((a.length + h.length + c.length : Nat) : Int) 0 (a ++ (h ++ c)) s z (by simp only [List.length_append]; omega) (by omega) (by omega) (app_range ha hhc) hsr hz (by simp only [List.length_append]; omega) rfl (fun t1 v t2 hst hvl hne => by
        have hk : (t1 ++ mixL v pt ++ t2).length = 4 := by
          rw [← ks, hst]; simp only [List.length_append, mixL_length hvl]; omega
        have := openL_form a c (t1 ++ mixL v pt ++ t2) z hk (by omega)
        rw [← hh, ← hm, if_neg (fun he => by
          rw [← hs, hst, List.append_assoc, List.append_assoc] at he
          have h1 := List.append_cancel_left he
          exact hne (List.append_cancel_right h1).symm)] at this
        exact this)
      rw [show (a ++ (h ++ c)).length + s.length = a.length + h.length + c.length + 4 by simp only [List.length_append]; omega] at hq
      refine Ev.step (fun k => ?_) hq
      have e1 := add_w a.length h.length n1
      have e2 := add_w (a.length + h.length) c.length n2
      have e3 := add_w (a.length + h.length + c.length) 4 n3
      rw [codesearchlaw04_ChecksumFrames.j1, if_neg (by decide), if_pos ht, e1, e2]
      exact congrArg (fun y => codesearchlaw04_ChecksumFrames.j2 k (a ++ (h ++ c) ++ s ++ z) (a.length : Int) ((a.length + h.length + c.length : Nat) : Int) y a c z at_ pt tl) e3
    · have hq := part ((a.length + h.length : Nat) : Int) 0 (a ++ h) c (s ++ z) (by simp only [List.length_append]; omega) (by simp only [List.length_append]; omega) (by omega) (app_range ha hr) hc (app_range hsr hz) (by rw [List.length_append]) (by simp only [List.append_assoc]) (fun t1 v t2 hst hvl hne => by
        have hk : (t1 ++ mixL v pt ++ t2).length = c.length := by
          rw [hst]; simp only [List.length_append, mixL_length hvl]; omega
        have hf := openL_form a (t1 ++ mixL v pt ++ t2) s z ks (by omega)
        rw [hk, ← hh, if_neg (fun he => by
          have r1 : ∀ x ∈ t1, 0 ≤ x ∧ x < 256 := fun x hx => hc x (by rw [hst]; simp [hx])
          have r2 : ∀ x ∈ v, 0 ≤ x ∧ x < 256 := fun x hx => hc x (by rw [hst]; simp [hx])
          have r3 : ∀ x ∈ t2, 0 ≤ x ∧ x < 256 := fun x hx => hc x (by rw [hst]; simp [hx])
          have rm := mixL_range r2 hp
          have rall : ∀ x ∈ h ++ (t1 ++ mixL v pt ++ t2), 0 ≤ x ∧ x < 256 := app_range hr (app_range (app_range r1 rm) r3)
          rw [hs] at he
          have h1 := four4_inj hmlt (crcE_lt (by decide) rall) he
          rw [hm, hst] at h1
          refine hne (crcE_burst (h ++ t1) v (mixL v pt) t2 (by rw [mixL_length hvl]; exact hvl) (by omega) (app_range hr r1) r2 rm r3 ?_)
          simpa only [List.append_assoc] using h1)] at hf
        rw [← hf]; congr 1; simp only [List.append_assoc])
      rw [show (a ++ h).length + c.length = a.length + h.length + c.length by simp only [List.length_append]] at hq
      refine Ev.step (fun k => ?_) hq
      have e1 := add_w a.length h.length n1
      have e2 := add_w (a.length + h.length) c.length n2
      rw [codesearchlaw04_ChecksumFrames.j1, if_neg (by decide), if_neg ht, e1, e2]
  have ball : ∀ x ∈ a ++ (h ++ c) ++ s ++ z, 0 ≤ x ∧ x < 256 := app_range (app_range (app_range ha hhc) hsr) hz
  have hopn := Open_go (a ++ (h ++ c) ++ s ++ z) (a.length : Int) (c.length : Int) (by simp only [List.length_append]; omega) ball
  rw [hwhole] at hopn
  have ehs : (h ++ c ++ s).length = h.length + c.length + 4 := by simp only [List.length_append]; omega
  have n1 : h.length + c.length ≤ 100000 := by omega
  have n2 : h.length + c.length + 4 ≤ 100000 := by omega
  have n3 : a.length + (h.length + c.length + 4) ≤ 100000 := by omega
  have n4 : a.length + h.length + c.length + 4 = a.length + (h.length + c.length + 4) := by omega
  have m1 : ([] : List Int).length + a.length < 140737488355328 := by simp only [List.length_nil]; omega
  have m2 : ([] ++ a).length + (h ++ c ++ s).length < 140737488355328 := by simp only [List.length_append, List.length_nil]; omega
  have m3 : ([] ++ a ++ (h ++ c ++ s)).length + z.length < 140737488355328 := by simp only [List.length_append, List.length_nil]; omega
  have hby := rBytes_go c c (by omega)
  rw [show decide (c = c) = true from by simp] at hby
  have eapp : [] ++ a ++ (h ++ c ++ s) ++ z = a ++ (h ++ c) ++ s ++ z := by rw [List.nil_append]; exact eall
  clear change part hwhole ball eall
  have el1 : (((h ++ c ++ s).length : Nat) : Int) = wrap64 (wrap64 ((h.length : Int) + (c.length : Int)) + 4) := by
    rw [add_w _ _ n1, ehs]
    exact (add_w (h.length + c.length) 4 n2).symm
  have el2 : ((a.length + h.length + c.length + 4 : Nat) : Int) = wrap64 ((a.length : Int) + (((h ++ c ++ s).length : Nat) : Int)) := by
    rw [ehs, add_w _ _ n3, n4]
  refine Ev.step (fun k => by rw [codesearchlaw04_ChecksumFrames.j0, if_neg (by decide)]) (Ev.bind_eq hseal (Ev.bind hput (Ev.ite_pos el1 (Ev.ite_pos m1 (Ev.bind_eq rfl (Ev.ite_pos m2 (Ev.bind_eq rfl (Ev.ite_pos m3 (Ev.bind_eq rfl ?_)))))))))
  rw [eapp]
  refine Ev.bind hopn (Ev.ite_pos rfl (Ev.ite_pos el2 (Ev.bind hby ?_)))
  exact last
theorem ChecksumFrames : StChecksumFrames.Pure := by
  intro U x hx
  obtain ⟨⟨_, _, _, h0⟩, ⟨_, _, _, h1⟩, ⟨_, _, _, h2⟩, h3, ⟨_, _, _, h4⟩, _⟩ := hx
  exact Ev.rounds (frames x.f0 x.f1 x.f2 x.f4 x.f3 x.f5 (fun y hy => wf_u8.1 (h0 y hy)) (fun y hy => wf_u8.1 (h1 y hy)) (fun y hy => wf_u8.1 (h2 y hy)) (fun y hy => wf_u8.1 (h4 y hy)) (wf_i64.1 h3))

end Go.Proofs.Ytihfpmociffpeaa.Pure
