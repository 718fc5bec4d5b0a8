/- TreeKeeps, over lists alone. -/
import Derived.Test.YtpnhamfodjfacaaDoorStTreeKeeps
import Derived.Test.YtpnhamfodjfacaaDoorKQHeld25
import Derived.Test.YtpnhamfodjfacaaDoorKQApply25
namespace Go.Proofs.YtpnhamfodjfacaaDoor.Pure
open Go.RowKit Go.Proofs.YtpnhamfodjfacaaDoorW.PrintWords Go.Proofs.YtpnhamfodjfacaaDoorW.PrintLast Go.Proofs.YtpnhamfodjfacaaDoorW.PrintMore Go.Proofs.YtpnhamfodjfacaaDoor.K Go.Proofs.YtpnhamfodjfacaaDoor.Q
set_option linter.unusedVariables false
set_option linter.unusedSimpArgs false
/-- What the last change set; else n. -/
def lastC (p : ByteArray) : List SC → Int → Int
  | [], n => n
  | c :: cs, n => lastC p cs (if c.f0 = p then c.f1 else n)
theorem applyR_keeps (p : ByteArray) : ∀ (cs : List SC) {r r' : FS}, IncF r → applyR r cs = some r' → blobL r' p = lastC p cs (blobL r p)
  | [], r, r', _, h => by obtain rfl := Option.some.inj h; rfl
  | c :: cs, r, r', hi, h => by
    rw [applyR] at h
    have go : ∀ b, applyR (setM r c.f0 b) cs = some r' → blobL r' p = lastC p cs (if c.f0 = p then b else blobL r p) := fun b e => by
      rw [applyR_keeps p cs (setM_inc hi _ _) e, blob_set hi]
    rw [lastC]
    by_cases e : c.f1 = 0
    · rw [if_pos e] at h
      by_cases e2 : thereL r c.f0 = true
      · rw [if_pos e2] at h
        rw [go 0 h, e]
      · rw [if_neg e2] at h; cases h
    · rw [if_neg e] at h; exact go _ h
theorem TreeKeeps : StTreeKeeps.Pure := by
  intro U l c p hl hc hp
  have hs : ∀ f ∈ l, f.f0.size ≤ 140737488351232 := fun f hf => (hl.2.2.2 f hf).1.1
  have hcs : ∀ x ∈ c, x.f0.size ≤ 140737488351232 ∧ okI x.f1 = true := fun x hx => by
    obtain ⟨h1, h2⟩ := hc.2.2.2 x hx
    refine ⟨h1.1, ?_⟩
    rw [wf_i64] at h2
    rw [okI, Bool.and_eq_true, decide_eq_true_iff, decide_eq_true_iff]
    exact h2
  refine Ev.rounds (Ev.congr (fun k => rfl) (Ev.bind alive25 (Ev.ite_pos rfl ?_)))
  have hj : Ev (fun k => codesearchlaw25_TreeKeeps.j0 k l c p true) true := by
    refine Ev.step (f := fun _ => some true) (fun k => ?_) (Ev.now _)
    rw [codesearchlaw25_TreeKeeps.j0, if_pos rfl]
  by_cases h1 : (l.length : Int) > 60
  · exact Ev.ite_pos h1 hj
  refine Ev.ite_neg h1 ?_
  by_cases h2 : (c.length : Int) > 40
  · rw [decide_eq_true h2]; exact hj
  rw [decide_eq_false h2]
  refine Ev.step (fun k => by rw [codesearchlaw25_TreeKeeps.j0, if_neg (by decide)]) (Ev.bind (Apply_is l c hs hcs) ?_)
  have hbad : ∀ e : Int, e ≠ 0 → Ev (fun k => if (([] : FS), e).2 = 0 then (codesearchlaw25_held.f k l p).bind fun t => codesearchlaw25_TreeKeeps.l0 k c p (([] : FS), e).1 t 0 else some (((([] : FS), e).1.length : Int) == 0)) true := fun e he => Ev.ite_neg he (Ev.now _)
  by_cases e : rightM l = 0
  · by_cases e2 : c.length > 16
    · rw [show applyOut l c = ([], 4) by rw [applyOut, if_pos e, if_pos e2]]; exact hbad 4 (by decide)
    · cases hr : applyR l c with
      | none => rw [show applyOut l c = ([], 8) by rw [applyOut, if_pos e, if_neg e2, hr]]; exact hbad 8 (by decide)
      | some r =>
        obtain ⟨h3, h4⟩ := applyR_size c hr hs (fun x hx => (hcs x hx).1)
        by_cases e3 : rightM r = 0
        · rw [show applyOut l c = (r, 0) by rw [applyOut, if_pos e, if_neg e2, hr]; exact if_pos e3]
          have ht := tree_of e
          refine Ev.ite_pos rfl (Ev.bind (held_is l p (by omega)) ?_)
          have hk := applyR_keeps p c ht.inc hr
          have key : ∀ d (i : Nat) (n : Int), i + d = c.length → blobL r p = lastC p (c.drop i) n → Ev (fun k => codesearchlaw25_TreeKeeps.l0 k c p r n (i : Int)) true := by
            intro d
            induction d with
            | zero =>
              intro i n hi hn
              rw [List.drop_of_length_le (by omega), lastC] at hn
              refine Ev.step (fun k => by rw [codesearchlaw25_TreeKeeps.l0, if_neg (by omega)]) (Ev.bind (held_is r p (by omega)) (Ev.ite_pos hn (Ev.bind (Right_is r h3) ?_)))
              rw [e3]
              exact Ev.now _
            | succ d ih =>
              intro i n hi hn
              have hlt : i < c.length := by omega
              rw [drop_cons c i hlt, lastC] at hn
              refine Ev.step (fun k => by rw [codesearchlaw25_TreeKeeps.l0, if_pos (show (i : Int) < (c.length : Int) by omega), if_pos (by omega), rdC_nat c i hlt, w1 i (by omega)]) ?_
              by_cases e4 : c[i].f0 = p
              · rw [if_pos e4] at hn
                exact Ev.ite_pos (toList_eq_iff.2 e4) (ih (i + 1) _ (by omega) hn)
              · rw [if_neg e4] at hn
                exact Ev.ite_neg (fun h => e4 (toList_eq_iff.1 h)) (ih (i + 1) _ (by omega) hn)
          exact key c.length 0 (blobL l p) (by omega) (by rw [List.drop_zero]; exact hk)
        · rw [show applyOut l c = ([], rightM r) by rw [applyOut, if_pos e, if_neg e2, hr]; exact if_neg e3]
          exact hbad _ e3
  · rw [show applyOut l c = ([], rightM l) by rw [applyOut, if_neg e]]; exact hbad _ e
end Go.Proofs.YtpnhamfodjfacaaDoor.Pure
