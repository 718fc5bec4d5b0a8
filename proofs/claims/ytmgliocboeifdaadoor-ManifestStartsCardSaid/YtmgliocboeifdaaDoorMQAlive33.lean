/- The examples of chapter 33 hold. -/
import Derived.Test.YtmgliocboeifdaaDoorMQState33
import Derived.Test.YtmgliocboeifdaaDoorMQRight33
import Derived.Test.YtmgliocboeifdaaDoorMx15
namespace Go.Proofs.YtmgliocboeifdaaDoor.Q
open Go.RowKit Go.Proofs.YtmgliocboeifdaaDoorW.PrintWords Go.Proofs.YtmgliocboeifdaaDoorW.PrintLast Go.Proofs.YtmgliocboeifdaaDoorW.PrintMore Go.Proofs.YtmgliocboeifdaaDoor.M
set_option linter.unusedVariables false
set_option linter.unusedSimpArgs false
instance decSE : DecidableEq SE := fun a b => decidable_of_decidable_of_iff (p := a.f0 = b.f0 ∧ a.f1 = b.f1 ∧ a.f2 = b.f2 ∧ a.f3 = b.f3 ∧ a.f4 = b.f4 ∧ a.f5 = b.f5) (by cases a; cases b; simp)
instance decFit (n : Nat) (e : SE) : Decidable (fit n e) := inferInstanceAs (Decidable (_ ∧ _))
theorem orS_lit {a b c : List Int} (hc : c.Pairwise (· < ·)) (h : ∀ x, x ∈ c ↔ x ∈ a ∨ x ∈ b) : orS a b = c := srt_ext (orS_srt _ _) hc (fun x => by rw [mem_orS, h])
abbrev e1 : SE := ⟨1, 1, 1, [], [], []⟩
abbrev e2 : SE := ⟨2, 1, 2, [], [], []⟩
abbrev e3 : SE := ⟨3, 2, 0, [7, 9], [], []⟩
abbrev e4 : SE := ⟨4, 3, 3, [], [1, 2], []⟩
abbrev ex33 : List SE := [e1, e2, e3, e4]
theorem st1 : afterM ([], [], 0) e1 = ([1], [], 1) := by
  rw [afterM, if_pos rfl, orS_lit (c := [1]) (by decide) (fun x => by simp)]; rfl
theorem st2 : afterM ([1], [], 1) e2 = ([1, 2], [], 2) := by
  rw [afterM, if_pos rfl, orS_lit (c := [1, 2]) (by decide) (fun x => by simp)]; rfl
theorem st3 : afterM ([1, 2], [], 2) e3 = ([1, 2], [7, 9], 2) := by
  rw [afterM, if_neg (by decide), if_pos rfl, orS_lit (c := [7, 9]) (by decide) (fun x => by simp)]; rfl
theorem st4 : afterM ([1, 2], [7, 9], 2) e4 = ([3], [], 3) := by
  rw [afterM, if_neg (by decide), if_neg (by decide), if_pos rfl, orS_lit (c := [3]) (by decide) (fun x => by rw [mem_minusS]; simp; omega)]; rfl
theorem al_run3 : runM (ex33.take 3) = ([1, 2], [7, 9], 2) := by
  show afterM (afterM (afterM ([], [], 0) e1) e2) e3 = _
  rw [st1, st2, st3]
theorem al_run : runM ex33 = ([3], [], 3) := by
  show afterM (afterM (afterM (afterM ([], [], 0) e1) e2) e3) e4 = _
  rw [st1, st2, st3, st4]
def brT : List ByteArray → Bool := fun _ => true
theorem al_ck1 : checkM brT ([], [], 0) 0 e1 = 0 := by decide +kernel
theorem al_right0 : rightM brT ex33 = 0 := by
  rw [rightM, rightGo, if_pos al_ck1, st1, rightGo, if_pos (by decide +kernel), st2, rightGo, if_pos (by decide +kernel), st3, rightGo, if_pos (by decide +kernel), rightGo]
theorem al_right7 : rightM brT [e1, ⟨2, 1, 1, [], [], []⟩] = 7 := by
  rw [rightM, rightGo, if_pos al_ck1, st1, rightGo, if_neg (by decide +kernel)]; decide +kernel
theorem al_right8 : rightM brT [e1, ⟨2, 3, 2, [], [4], []⟩] = 8 := by
  rw [rightM, rightGo, if_pos al_ck1, st1, rightGo, if_neg (by decide +kernel)]; decide +kernel
theorem al_right1 : rightM brT [⟨1, 2, 0, [], [], []⟩] = 1 := by
  rw [rightM, rightGo, if_neg (by decide +kernel)]; decide +kernel
def wr33 : List Int := (manifest_Write.f 60 ex33).getD []
set_option maxRecDepth 100000 in
theorem al_write : Ev (fun k => manifest_Write.f k ex33) wr33 := Ev.of (fun k => manifest_Write.mono _ k) (k := 60) (by decide +kernel)
set_option maxRecDepth 100000 in
theorem al_rec : Ev (fun k => manifest_Recover.f k wr33) (ex33, (wr33.length : Int)) := Ev.of (fun k => manifest_Recover.mono _ k) (k := 60) (by decide +kernel)
set_option maxRecDepth 100000 in
theorem al_enc : Ev (fun k => manifest_Encode.f k 1 1 5 [] [] []) [1, 1, 5, 0, 0, 0] := Ev.of (fun k => manifest_Encode.mono _ _ _ _ _ _ k) (k := 30) (by decide +kernel)
set_option maxRecDepth 100000 in
theorem al_same : Ev (fun k => codesearchref33_SameAll.f k ex33 ex33) true := Ev.of (fun k => codesearchref33_SameAll.mono _ _ k) (k := 30) (by decide +kernel)
set_option maxRecDepth 100000 in
theorem al_ints (l : List Int) (h : codesearchref33_SameInts.f 30 l l = some true) : Ev (fun k => codesearchref33_SameInts.f k l l) true := Ev.of (fun k => codesearchref33_SameInts.mono _ _ k) h
theorem al_R (l : List SE) (r : Int) (hl : l.length ≤ 1000) (hf : ∀ e ∈ l, fit 1000 e) (hk : ∀ e ∈ l, e.f1 ≠ 4) (h : rightM brT l = r) : Ev (fun k => manifest_Right.f k l) r := h ▸ Right_is brT l hl hf (fun e he h4 => absurd h4 (hk e he))
set_option maxRecDepth 100000 in
theorem alive33 : Ev (fun k => codesearchlaw33_alive.f k) true := by
  have f3 : ∀ e ∈ ex33.take 3, fit 1000 e := by decide +kernel
  have f4 : ∀ e ∈ ex33, fit 1000 e := by decide +kernel
  have L3 := Live_is (ex33.take 3) (by decide) f3
  have D3 := Dead_is (ex33.take 3) (by decide) f3
  have L4 := Live_is ex33 (by decide) f4
  have D4 := Dead_is ex33 (by decide) f4
  rw [al_run3] at L3 D3
  rw [al_run] at L4 D4
  refine Ev.bind_eq (show codesearchlaw33_example.f = some ex33 from rfl) ?_
  refine Ev.bind (al_R ex33 0 (by decide) f4 (by decide) al_right0) (Ev.ite_pos rfl (Ev.ite_pos (by decide) (Ev.bind L3 ?_)))
  refine Ev.bind (al_ints [1, 2] (by decide +kernel)) (Ev.ite_pos rfl (Ev.bind D3 ?_))
  refine Ev.bind (al_ints [7, 9] (by decide +kernel)) (Ev.ite_pos rfl (Ev.bind L4 ?_))
  refine Ev.bind (al_ints [3] (by decide +kernel)) (Ev.ite_pos rfl (Ev.bind D4 ?_))
  refine Ev.ite_pos (by decide) ?_
  refine Ev.bind al_enc ?_
  refine Ev.ite_pos (by decide +kernel) ?_
  refine Ev.ite_pos (by decide) ?_
  refine Ev.bind (al_R [e1, ⟨2, 1, 1, [], [], []⟩] 7 (by decide) (by decide +kernel) (by decide) al_right7) ?_
  refine Ev.bind (al_R [e1, ⟨2, 3, 2, [], [4], []⟩] 8 (by decide) (by decide +kernel) (by decide) al_right8) ?_
  refine Ev.bind (al_R [⟨1, 2, 0, [], [], []⟩] 1 (by decide) (by decide +kernel) (by decide) al_right1) ?_
  refine Ev.bind al_write (Ev.bind al_rec (Ev.ite_pos rfl (Ev.ite_pos rfl (Ev.ite_pos rfl (Ev.bind al_same (Ev.ite_pos rfl (Ev.bind al_write (Ev.ite_pos rfl ?_))))))))
  exact Ev.congr (fun k => by rw [decide_eq_true (show (wr33.length : Int) > 0 by decide +kernel)]) (Ev.now _)
end Go.Proofs.YtmgliocboeifdaaDoor.Q
