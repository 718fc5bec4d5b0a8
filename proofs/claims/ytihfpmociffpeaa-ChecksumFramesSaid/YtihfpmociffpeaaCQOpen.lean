/- What opening a frame answers. -/
import Derived.Test.YtihfpmociffpeaaCx2
import Derived.Test.YtihfpmociffpeaaCx5
import Derived.Test.YtihfpmociffpeaaCQCrc
import Derived.Test.YtihfpmociffpeaaCQRGet
import Derived.Test.YtihfpmociffpeaaCQOk
import Derived.Test.YtihfpmociffpeaaCQSeal
namespace Go.Proofs.Ytihfpmociffpeaa.Q
open Go.RowKit Go.Proofs.YtihfpmociffpeaaW.PrintWords Go.Proofs.YtihfpmociffpeaaW.PrintLast Go.Proofs.YtihfpmociffpeaaW.PrintMore Go.Proofs.Ytihfpmociffpeaa.C
set_option linter.unusedVariables false
set_option linter.unusedSimpArgs false

/-- The bytes at 'e' are the four of a number. -/
def ok4 (b : List Int) (e : Nat) (s : Nat) : Prop :=
  rd b (e : Int) = ((s / 16777216 % 256 : Nat) : Int) ∧ rd b ((e + 1 : Nat) : Int) = ((s / 65536 % 256 : Nat) : Int) ∧ rd b ((e + 2 : Nat) : Int) = ((s / 256 % 256 : Nat) : Int) ∧ rd b ((e + 3 : Nat) : Int) = ((s % 256 : Nat) : Int)
instance (b : List Int) (e s : Nat) : Decidable (ok4 b e s) := inferInstanceAs (Decidable (_ ∧ _))
/-- What stands behind a number that was read: the content's end, the checksum's bytes. -/
def openB (b : List Int) (at_ : Nat) (from_ n : Nat) : List Int × Int × Int :=
  if from_ + n + 4 > b.length then ([], 0, 5) else
  if ok4 b (from_ + n) (crcE 0 ((b.take (from_ + n)).drop at_)) then ((b.take (from_ + n)).drop from_, ((from_ + n + 4 : Nat) : Int), 0) else ([], 0, 6)
def openL (b : List Int) (at_ most : Int) : List Int × Int × Int :=
  let g := get7 b at_
  if g.2.2 = 0 then if g.1 > most then ([], 0, 4) else openB b at_.toNat g.2.1.toNat g.1.toNat else ([], 0, g.2.2)
theorem openB_out {b : List Int} {a f n : Nat} (h : f + n + 4 > b.length) : openB b a f n = ([], 0, 5) := if_pos h
theorem openB_in {b : List Int} {a f n : Nat} (h : f + n + 4 ≤ b.length) : openB b a f n = if ok4 b (f + n) (crcE 0 ((b.take (f + n)).drop a)) then ((b.take (f + n)).drop f, ((f + n + 4 : Nat) : Int), 0) else ([], 0, 6) := if_neg (by omega)
theorem cut_range {b : List Int} (hu : ∀ x ∈ b, 0 ≤ x ∧ x < 256) (e a : Nat) : ∀ x ∈ (b.take e).drop a, 0 ≤ x ∧ x < 256 := fun x hx => hu x (List.mem_of_mem_take (List.mem_of_mem_drop hx))
theorem Clone_go (l : List Int) (h : l.length ≤ 140737488351232) : slices_Clone_byte_byte.f l = some l := by
  unfold slices_Clone_byte_byte.f
  rw [Option.bind_some, List.length_nil, if_pos (by omega), List.nil_append]
theorem Open_go (b : List Int) (at_ most : Int) (hb : b.length ≤ 140737488351000) (hu : ∀ x ∈ b, 0 ≤ x ∧ x < 256) : Ev (fun k => checksum_Open.f k b at_ most) (openL b at_ most) := by
  refine Ev.congr (fun k => by rw [checksum_Open.f]) (Ev.bind (Get_go b at_ (by omega) hu) ?_)
  unfold openL
  by_cases h0 : (get7 b at_).2.2 = 0
  · obtain ⟨g0, g1, p, _, g9, g2, g3, g4, g5, g6⟩ := get7_ok h0
    rw [g2]
    refine Ev.ite_pos rfl ?_
    simp only [if_true]
    by_cases h1 : val7 p > most
    · simp only [if_pos h1]; exact Ev.now _
    · simp only [if_neg h1]
      obtain ⟨n, hn⟩ := Int.eq_ofNat_of_zero_le g4
      obtain ⟨a, rfl⟩ := Int.eq_ofNat_of_zero_le g0
      rw [hn] at g5 ⊢
      have ef : (a : Int) + (p.length : Int) = ((a + p.length : Nat) : Int) := by omega
      rw [ef]
      simp only [Int.toNat_natCast]
      have hf : a + p.length ≤ b.length := by omega
      have haf : a ≤ a + p.length := by omega
      generalize a + p.length = f at hf haf
      clear h0 h1 g0 g1 g9 g2 g3 g6 ef g4 hn
      have e1 : wrap64 ((b.length : Int) - (f : Int)) = ((b.length - f : Nat) : Int) := by rw [w64 (by omega) (by omega)]; omega
      rw [e1]
      by_cases h2 : ((b.length - f : Nat) : Int) < 4
      · rw [openB_out (by omega)]; exact Ev.ite_pos h2 (Ev.now _)
      · refine Ev.ite_neg h2 ?_
        rw [w64 (x := ((b.length - f : Nat) : Int) - 4) (by omega) (by omega)]
        by_cases h3 : (n : Int) > ((b.length - f : Nat) : Int) - 4
        · rw [openB_out (by omega)]; exact Ev.ite_pos h3 (Ev.now _)
        · have h4 : f + n + 4 ≤ b.length := by omega
          refine Ev.ite_neg h3 ?_
          clear h2 h3 e1
          have hcl : ((b.take (f + n)).drop f).length ≤ 140737488351232 := by simp only [List.length_drop, List.length_take]; omega
          have l0 : ((f + n : Nat) : Int) < (b.length : Int) := by omega
          have l1 : ((f + n + 1 : Nat) : Int) < (b.length : Int) := by omega
          have l2 : ((f + n + 2 : Nat) : Int) < (b.length : Int) := by omega
          have l3 : ((f + n + 3 : Nat) : Int) < (b.length : Int) := by omega
          have p0 : ∀ m : Nat, (0 : Int) ≤ (m : Int) := fun m => Int.natCast_nonneg m
          have la : (a : Int) ≤ ((f + n : Nat) : Int) := by omega
          have lf : (f : Int) ≤ ((f + n : Nat) : Int) := by omega
          have lb : ((f + n : Nat) : Int) ≤ (b.length : Int) := by omega
          have e2 : wrap64 ((f : Int) + (n : Int)) = ((f + n : Nat) : Int) := by rw [w64 (by omega) (by omega)]; omega
          have e3 : wrap64 (((f + n : Nat) : Int) + 1) = ((f + n + 1 : Nat) : Int) := by rw [w64 (by omega) (by omega)]; omega
          have e4 : wrap64 (((f + n : Nat) : Int) + 2) = ((f + n + 2 : Nat) : Int) := by rw [w64 (by omega) (by omega)]; omega
          have e5 : wrap64 (((f + n : Nat) : Int) + 3) = ((f + n + 3 : Nat) : Int) := by rw [w64 (by omega) (by omega)]; omega
          have e6 : wrap64 (((f + n : Nat) : Int) + 4) = ((f + n + 4 : Nat) : Int) := by rw [w64 (by omega) (by omega)]; omega
          rw [openB_in h4, e2, e3, e4, e5, e6]
          simp only [Int.toNat_natCast]
          have hc := Clone_go ((b.take (f + n)).drop f) hcl
          have hs := Sum_go ((b.take (f + n)).drop a) (cut_range hu (f + n) a)
          rw [hc, hs]
          clear hcl e2 e3 e4 e5 e6 hc hs
          generalize crcE 0 ((b.take (f + n)).drop a) = s
          have q1 : (s : Int) / 16777216 % 256 = ((s / 16777216 % 256 : Nat) : Int) := by omega
          have q2 : (s : Int) / 65536 % 256 = ((s / 65536 % 256 : Nat) : Int) := by omega
          have q3 : (s : Int) / 256 % 256 = ((s / 256 % 256 : Nat) : Int) := by omega
          have q4 : (s : Int) % 256 = ((s % 256 : Nat) : Int) := by omega
          refine Ev.ite_pos (p0 _) (Ev.ite_pos la (Ev.ite_pos lb (Ev.bind_eq rfl (Ev.ite_pos (p0 _) (Ev.ite_pos l0 ?_)))))
          rw [q1, q2, q3, q4]
          by_cases k1 : rd b ((f + n : Nat) : Int) = ((s / 16777216 % 256 : Nat) : Int)
          · refine Ev.ite_pos k1 (Ev.ite_pos (p0 _) (Ev.ite_pos l1 ?_))
            by_cases k2 : rd b ((f + n + 1 : Nat) : Int) = ((s / 65536 % 256 : Nat) : Int)
            · refine Ev.ite_pos k2 (Ev.ite_pos (p0 _) (Ev.ite_pos l2 ?_))
              by_cases k3 : rd b ((f + n + 2 : Nat) : Int) = ((s / 256 % 256 : Nat) : Int)
              · refine Ev.ite_pos k3 (Ev.ite_pos (p0 _) (Ev.ite_pos l3 ?_))
                by_cases k4 : rd b ((f + n + 3 : Nat) : Int) = ((s % 256 : Nat) : Int)
                · refine Ev.ite_pos k4 (Ev.ite_pos (p0 _) (Ev.ite_pos lf ?_))
                  rw [if_pos (show ok4 b (f + n) s from ⟨k1, k2, k3, k4⟩)]
                  exact Ev.bind_eq rfl (Ev.now _)
                · rw [if_neg (show ¬ ok4 b (f + n) s from fun h => k4 h.2.2.2)]
                  exact Ev.ite_neg k4 (Ev.now _)
              · rw [if_neg (show ¬ ok4 b (f + n) s from fun h => k3 h.2.2.1)]
                exact Ev.ite_neg k3 (Ev.now _)
            · rw [if_neg (show ¬ ok4 b (f + n) s from fun h => k2 h.2.1)]
              exact Ev.ite_neg k2 (Ev.now _)
          · rw [if_neg (show ¬ ok4 b (f + n) s from fun h => k1 h.1)]
            exact Ev.ite_neg k1 (Ev.now _)
  · refine Ev.ite_neg h0 ?_
    simp only [if_neg h0]
    exact Ev.now _
theorem ropen_copy (b : List Int) (f e : Nat) (hb : b.length ≤ 140737488351000) (hfe : f ≤ e) (he : e + 4 ≤ b.length) : ∀ (d i : Nat), i + d = e - f → Ev (fun k => codesearchref04_Open.l1 k b (e : Int) (((b.take e).drop f).take i) ((f + i : Nat) : Int)) ((b.take e).drop f, ((e + 4 : Nat) : Int), 0) := by
  have hl : ((b.take e).drop f).length = e - f := by rw [List.length_drop, List.length_take]; omega
  intro d
  induction d with
  | zero =>
    intro i hi
    refine Ev.step (f := fun _ => some ((b.take e).drop f, ((e + 4 : Nat) : Int), 0)) (fun k => ?_) (Ev.now _)
    rw [codesearchref04_Open.l1, if_neg (by omega), List.take_of_length_le (by omega), w64 (by omega) (by omega)]
    rfl
  | succ d ih =>
    intro i hi
    refine Ev.step (f := fun k => codesearchref04_Open.l1 k b (e : Int) (((b.take e).drop f).take (i + 1)) ((f + (i + 1) : Nat) : Int)) (fun k => ?_) (ih (i + 1) (by omega))
    have hg : ((b.take e).drop f)[i]'(by omega) = b[f + i]'(by omega) := by rw [List.getElem_drop, List.getElem_take]
    rw [codesearchref04_Open.l1, if_pos (by omega), if_pos (by omega), if_pos (by omega), if_pos (by rw [List.length_take]; omega), rd_nat b (f + i) (by omega), ← hg, take_snoc _ i (by omega), w64 (by omega) (by omega)]
    rfl
theorem ropen_four (b : List Int) (f e s : Nat) (hb : b.length ≤ 140737488351000) (hfe : f ≤ e) (he : e + 4 ≤ b.length) : Ev (fun k => codesearchref04_Open.l0 k b (f : Int) (e : Int) (four4 s) 0) (if ok4 b e s then ((b.take e).drop f, ((e + 4 : Nat) : Int), 0) else ([], 0, 6)) := by
  have fin : ∀ r, Ev (fun k => codesearchref04_Open.l1 k b (e : Int) [] (f : Int)) r → Ev (fun k => codesearchref04_Open.l0 k b (f : Int) (e : Int) (four4 s) 4) r := fun r h => Ev.step (fun k => by rw [codesearchref04_Open.l0, if_neg (by decide)]) h
  have step : ∀ (i : Nat) (v : Int) (r : List Int × Int × Int), i < 4 → rd (four4 s) (i : Int) = v → (rd b ((e + i : Nat) : Int) = v → Ev (fun k => codesearchref04_Open.l0 k b (f : Int) (e : Int) (four4 s) ((i + 1 : Nat) : Int)) r) → (¬ rd b ((e + i : Nat) : Int) = v → r = ([], 0, 6)) →
      Ev (fun k => codesearchref04_Open.l0 k b (f : Int) (e : Int) (four4 s) (i : Int)) r := by
    intro i v r hi hv h1 h2
    have e1 : wrap64 ((e : Int) + (i : Int)) = ((e + i : Nat) : Int) := by rw [w64 (by omega) (by omega)]; omega
    have e2 : wrap64 ((i : Int) + 1) = ((i + 1 : Nat) : Int) := by rw [w64 (by omega) (by omega)]; omega
    have hl4 : (four4 s).length = 4 := rfl
    by_cases h : rd b ((e + i : Nat) : Int) = v
    · refine Ev.step (fun k => ?_) (h1 h)
      rw [codesearchref04_Open.l0, if_pos (by omega), e1, e2, if_pos (by omega), if_pos (by omega), if_pos (by omega), if_pos (by omega), hv, if_pos h]
    · rw [h2 h]
      refine Ev.step (f := fun _ => some (([] : List Int), 0, 6)) (fun k => ?_) (Ev.now _)
      rw [codesearchref04_Open.l0, if_pos (by omega), e1, e2, if_pos (by omega), if_pos (by omega), if_pos (by omega), if_pos (by omega), hv, if_neg h]
  refine step 0 _ _ (by decide) rfl (fun k1 => ?_) (fun k1 => if_neg (fun h => k1 h.1))
  refine step 1 _ _ (by decide) rfl (fun k2 => ?_) (fun k2 => if_neg (fun h => k2 h.2.1))
  refine step 2 _ _ (by decide) rfl (fun k3 => ?_) (fun k3 => if_neg (fun h => k3 h.2.2.1))
  refine step 3 _ _ (by decide) rfl (fun k4 => ?_) (fun k4 => if_neg (fun h => k4 h.2.2.2))
  rw [if_pos (show ok4 b e s from ⟨k1, k2, k3, k4⟩)]
  refine fin _ ?_
  have h := ropen_copy b f e hb hfe he (e - f) 0 (by omega)
  rw [List.take_zero] at h
  exact h
theorem rOpen_go (b : List Int) (at_ most : Int) (hb : b.length ≤ 140737488351000) (hu : ∀ x ∈ b, 0 ≤ x ∧ x < 256) : Ev (fun k => codesearchref04_Open.f k b at_ most) (openL b at_ most) := by
  refine Ev.congr (fun k => by rw [codesearchref04_Open.f]) (Ev.bind (rGet_go b at_ (by omega) hu) ?_)
  unfold openL
  by_cases h0 : (get7 b at_).2.2 = 0
  · obtain ⟨g0, g1, p, _, g9, g2, g3, g4, g5, g6⟩ := get7_ok h0
    rw [g2]
    refine Ev.ite_pos rfl ?_
    simp only [if_true]
    by_cases h1 : val7 p > most
    · simp only [if_pos h1]; exact Ev.now _
    · simp only [if_neg h1]
      obtain ⟨n, hn⟩ := Int.eq_ofNat_of_zero_le g4
      obtain ⟨a, rfl⟩ := Int.eq_ofNat_of_zero_le g0
      rw [hn] at g5 ⊢
      have ef : (a : Int) + (p.length : Int) = ((a + p.length : Nat) : Int) := by omega
      rw [ef]
      simp only [Int.toNat_natCast]
      have hf : a + p.length ≤ b.length := by omega
      have haf : a ≤ a + p.length := by omega
      generalize a + p.length = f at hf haf
      clear h0 h1 g0 g1 g9 g2 g3 g6 ef g4 hn
      have e1 : wrap64 ((b.length : Int) - (f : Int)) = ((b.length - f : Nat) : Int) := by rw [w64 (by omega) (by omega)]; omega
      rw [e1]
      have quit : Ev (fun k => codesearchref04_Open.j0 k b (a : Int) (n : Int) (f : Int) true) ([], 0, 5) := by
        refine Ev.step (f := fun _ => some ([], 0, 5)) (fun k => ?_) (Ev.now _)
        rw [codesearchref04_Open.j0, if_pos rfl]
      unfold openB
      by_cases h2 : (n : Int) > ((b.length - f : Nat) : Int)
      · rw [if_pos (show f + n + 4 > b.length by omega)]; exact Ev.ite_pos h2 quit
      · refine Ev.ite_neg h2 ?_
        rw [w64 (x := ((b.length - f : Nat) : Int) - (n : Int)) (by omega) (by omega)]
        by_cases h3 : ((b.length - f : Nat) : Int) - (n : Int) < 4
        · rw [if_pos (show f + n + 4 > b.length by omega), decide_eq_true h3]; exact quit
        · have h4 : f + n + 4 ≤ b.length := by omega
          have e2 : wrap64 ((f : Int) + (n : Int)) = ((f + n : Nat) : Int) := by rw [w64 (by omega) (by omega)]; omega
          rw [if_neg (show ¬ f + n + 4 > b.length by omega), decide_eq_false h3]
          have hs := rSum_go ((b.take (f + n)).drop a) (by simp only [List.length_drop, List.length_take]; omega) (cut_range hu (f + n) a)
          have hq := ropen_four b f (f + n) (crcE 0 ((b.take (f + n)).drop a)) hb (by omega) h4
          have hlt := crcE_lt (s := 0) (by decide) (cut_range hu (f + n) a)
          refine Ev.step (fun k => ?_) (Ev.bind (f := fun k t => (codesearchref04_four.f t).bind fun t237 => (codesearchref04_Open.l0 k b (f : Int) ((f + n : Nat) : Int) t237 0)) hs (Ev.bind_eq (four_go _ hlt) hq))
          rw [codesearchref04_Open.j0, if_neg (by decide), e2, if_pos (by omega), if_pos (by omega), if_pos (by omega)]
          simp only [Int.toNat_natCast]
  · refine Ev.ite_neg h0 ?_
    simp only [if_neg h0]
    exact Ev.now _
end Go.Proofs.Ytihfpmociffpeaa.Q
