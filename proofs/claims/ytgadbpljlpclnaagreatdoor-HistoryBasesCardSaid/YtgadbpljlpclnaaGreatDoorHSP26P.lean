/- What the laws of this chapter share, over lists. -/
import Derived.Test.YtgadbpljlpclnaaGreatDoorHx26
import Derived.Test.YtgadbpljlpclnaaGreatDoorQRead
import Derived.KernelRfl
import Derived.Test.YtgadbpljlpclnaaGreatDoorHQ26P
/-! What is to be proved of HistoryBases, over numbers and lists alone; how its arguments are read. -/
namespace Go.Proofs.YtgadbpljlpclnaaGreatDoor.StHistoryBases
open Go.RowKit Go.Proofs.YtgadbpljlpclnaaGreatDoor.H Go.Proofs.YtgadbpljlpclnaaGreatDoor.Q Go.Proofs.YtgadbpljlpclnaaGreatDoorW.PrintWords Go.Proofs.YtgadbpljlpclnaaGreatDoorW.PrintLast
set_option linter.unusedVariables false
/-! #### struct type 46 -/
structure S46 where
 f0 : Int
 f1 : Int
def z46 : S46 := ⟨(0 : Int), (0 : Int)⟩
def k46 : Kd S46 := Kd.iso (Kd.pair (Kd.int .i64) (Kd.int .i64)) (fun x : S46 => (x.f0, x.f1))
theorem k46_open {w : World} {x : S46} {cs : List Value} (h : k46.K w x cs) : cs = [.int .i64 x.f0, .int .i64 x.f1] := by
 obtain ⟨_, _, rfl, rfl, rfl⟩ := h
 exact rfl
theorem k46_openM {w : World} {base : Nat} {ok : Nat → Prop} {x : S46} {cs : List Value} (h : k46.M w base ok x cs) : cs = [.int .i64 x.f0, .int .i64 x.f1] := by
 obtain ⟨_, _, rfl, rfl, rfl⟩ := h
 exact rfl
theorem k46_mk (w : World) (x : S46)  : k46.K w x [.int .i64 x.f0, .int .i64 x.f1] := ⟨[.int .i64 x.f0], [.int .i64 x.f1], rfl, rfl, rfl⟩
theorem k46_mkM (w : World) (base : Nat) (ok : Nat → Prop) (x : S46)  : k46.M w base ok x [.int .i64 x.f0, .int .i64 x.f1] := ⟨[.int .i64 x.f0], [.int .i64 x.f1], rfl, rfl, rfl⟩
def rd_T46 (xs : List S46) (i : Int) : S46 := xs.getD i.toNat z46
theorem at_T46 {w : World} {A : Option Addr} {n : Nat} {xs : List S46} (h : Kd.C k46 w A n xs) (i : Int) (h0 : 0 ≤ i) (h1 : i < n) : ∃ ad , A = some ad ∧ w.cell? (ad.add (i.toNat * 2)) = some (.int .i64 (rd_T46 xs i).f0) ∧ w.cell? ⟨(ad.add (i.toNat * 2)).block, (ad.add (i.toNat * 2)).off + 1, none⟩ = some (.int .i64 (rd_T46 xs i).f1) := by
 obtain ⟨ad, c, e, _, hK, hc0⟩ := Kd.C_get h z46 i h0 h1
 have hc : ∀ j u, c[j]? = some u → w.cell? (ad.add (i.toNat * 2 + j)) = some u := hc0
 obtain rfl := k46_open hK
 exact ⟨ad, e, hc 0 _ rfl, by rw [← add_field _ _ 1 (by omega)]; exact hc 1 _ rfl⟩

def g53 (U : Nat) (x : S53) : Prop := (x.f0.size ≤ 140737488351232 ∧ x.f0.size ≤ U) ∧ (Lit.int .i64 x.f1).wf = true
theorem rd53 : Rd Tryz.prog k53 53 g53 := Rd.struct (ts := [9, 3]) (fun a => (⟨a.1, a.2⟩ : S53)) (fun a => rfl) Tryz.underlying53 (by kernel_rfl) (by kernel_rfl) (RdF.cons (Rd.string Tryz.underlying9) (RdF.one (Rd.int Tryz.underlying3)))
def g28 (U : Nat) (x : S28) : Prop := (Lit.int .i64 x.f0).wf = true ∧ (x.f1.length * 8 ≤ 140737488351232 ∧ x.f1.length ≤ maxLen ∧ x.f1.length ≤ U ∧ ∀ y ∈ x.f1, (Lit.int .i64 y).wf = true) ∧ (x.f2.length * 24 ≤ 140737488351232 ∧ x.f2.length ≤ maxLen ∧ x.f2.length ≤ U ∧ ∀ y ∈ x.f2, g53 U y) ∧ (Lit.int .i64 x.f3).wf = true ∧ (Lit.int .i64 x.f4).wf = true
theorem rd28 : Rd Tryz.prog k28 28 g28 := Rd.struct (ts := [3, 25, 26, 3, 3]) (fun a => (⟨a.1, a.2.1, a.2.2.1, a.2.2.2.1, a.2.2.2.2⟩ : S28)) (fun a => rfl) Tryz.underlying28 (by kernel_rfl) (by kernel_rfl) (RdF.cons (Rd.int Tryz.underlying3) (RdF.cons (Rd.slice (B := 8) Tryz.underlying25 (by kernel_rfl) (by kernel_rfl) (Rd.int Tryz.underlying3)) (RdF.cons (Rd.slice (B := 24) Tryz.underlying26 (by kernel_rfl) (by kernel_rfl) rd53) (RdF.cons (Rd.int Tryz.underlying3) (RdF.one (Rd.int Tryz.underlying3))))))
def g46 (U : Nat) (x : S46) : Prop := (Lit.int .i64 x.f0).wf = true ∧ (Lit.int .i64 x.f1).wf = true
theorem rd46 : Rd Tryz.prog k46 46 g46 := Rd.array (ts := [3, 3]) (fun a => (⟨a.1, a.2⟩ : S46)) (fun a => rfl) Tryz.underlying46 (by kernel_rfl) (by kernel_rfl) (RdF.cons (Rd.int Tryz.underlying3) (RdF.one (Rd.int Tryz.underlying3)))
/-- THE PURE STATEMENT. -/
def Pure : Prop := ∀ (U : Nat) (x0 : List (S28)) (x1 : S46) (x2 : Int), (x0.length * 72 ≤ 140737488351232 ∧ x0.length ≤ maxLen ∧ x0.length ≤ U ∧ ∀ y ∈ x0, g28 U y) → g46 U x1 → (Lit.int .i64 x2).wf = true → ∃ k, l26_HistoryBases.f k x0 x1.f0 x1.f1 x2 = some true
end Go.Proofs.YtgadbpljlpclnaaGreatDoor.StHistoryBases

/-! HistoryBases, over lists alone. -/
namespace Go.Proofs.YtgadbpljlpclnaaGreatDoor.Pure
open Go.RowKit Go.Proofs.YtgadbpljlpclnaaGreatDoorW.PrintWords Go.Proofs.YtgadbpljlpclnaaGreatDoorW.PrintLast Go.Proofs.YtgadbpljlpclnaaGreatDoorW.PrintMore Go.Proofs.YtgadbpljlpclnaaGreatDoor.H Go.Proofs.YtgadbpljlpclnaaGreatDoor.Q
set_option linter.unusedVariables false
set_option linter.unusedSimpArgs false
theorem bas_l1 {l : List CM} (hr : RightL l) (hok : okHs l = true) (n a b : Int) (hn : okV n = true) (cov : Bool) (i : Nat) (hi : i < (basM l a b).length) {r : Bool} (hnext : Ev (fun k => l26_HistoryBases.l0 k l n a b (basM l a b) (cov || isM l n (basM l a b)[i]) ((i + 1 : Nat) : Int)) r) :
  ∀ d (j : Nat), j + d = (basM l a b).length → Ev (fun k => l26_HistoryBases.l1 k l n a b (basM l a b) cov (i : Int) (j : Int)) r := by
 have hlen := basM_len hr a b
 intro d
 induction d with
 | zero =>
  intro j hj
  cases cov with
  | true =>
   rw [Bool.true_or] at hnext
   exact Ev.step (fun k => by rw [l26_HistoryBases.l1, if_neg (by omega), if_pos rfl, w1 i (by omega)]) hnext
  | false =>
   rw [Bool.false_or] at hnext
   exact Ev.step (fun k => by rw [l26_HistoryBases.l1, if_neg (by omega), if_neg (by decide), if_pos (by omega), if_pos (by omega), rd_nat _ i hi, w1 i (by omega)]) (Ev.bind (hIs_is hr hok n _ hn) hnext)
 | succ d ih =>
  intro j hj
  have hlt : j < (basM l a b).length := by omega
  by_cases e : j = i
  ·exact Ev.step (fun k => by rw [l26_HistoryBases.l1, if_pos (by omega), if_pos (by omega), w1 j (by omega)]) (ih (j + 1) (by omega))
  ·have h1 := mem_basM.1 (List.getElem_mem hi)
   have h2 := mem_basM.1 (List.getElem_mem hlt)
   have hne : (basM l a b)[j] ≠ (basM l a b)[i] := by
    have hs := List.pairwise_iff_getElem.1 (basM_srt l a b)
    rcases Nat.lt_or_gt_of_ne e with h | h
    ·have := hs j i hlt hi h; omega
    ·have := hs i j hi hlt h; omega
   have h3 : isM l (basM l a b)[i] (basM l a b)[j] = false := by
    cases h : isM l (basM l a b)[i] (basM l a b)[j] with
    | false => rfl
    | true => exact absurd ((isM_ne (by have := h1.1.1.pos hr; omega)).1 h) (h1.2 _ h2.1.1 h2.1.2 hne)
   refine Ev.step (fun k => by rw [l26_HistoryBases.l1, if_pos (by omega), if_neg (by omega), if_pos (by omega), if_pos (by omega), if_pos (by omega), rd_nat _ i hi, rd_nat _ j hlt, w1 j (by omega)]) (Ev.bind (hIs_is hr hok _ _ (ancS_ok hok (mem_ancS.2 h1.1.1))) ?_)
   rw [h3]
   exact Ev.ite_neg (by decide) (ih (j + 1) (by omega))
theorem bas_l0 {l : List CM} (hr : RightL l) (hok : okHs l = true) (n a b : Int) (hn : okV n = true) : ∀ d (i : Nat), i + d = (basM l a b).length → Ev (fun k => l26_HistoryBases.l0 k l n a b (basM l a b) (((basM l a b).take i).any fun x => isM l n x) (i : Int)) true := by
 have hlen := basM_len hr a b
 have l1 := ancS_len hr a
 have l2 := ancS_len hr b
 intro d
 induction d with
 | zero =>
  intro i hi
  rw [List.take_of_length_le (by omega)]
  refine Ev.step (fun k => by rw [l26_HistoryBases.l0, if_neg (by omega)]) (Ev.bind (hAnc_is hr hok a) (Ev.bind (In_go (ancS l a) n (by omega)) ?_))
  by_cases e1 : n ∈ ancS l a
  ·refine Ev.ite_pos (decide_eq_true e1) (Ev.bind (hAnc_is hr hok b) (Ev.bind (In_go (ancS l b) n (by omega)) ?_))
   by_cases e2 : n ∈ ancS l b
   ·refine Ev.ite_pos (decide_eq_true e2) ?_
    have h1 := mem_ancS.1 e1
    have h2 := mem_ancS.1 e2
    obtain ⟨x, hx, h3⟩ := basM_cover hr _ n (Nat.le_refl _) h1 h2 (Anc.self h1.there)
    rw [show ((basM l a b).any fun x => isM l n x) = true from List.any_eq_true.2 ⟨x, hx, isM_anc hr h3⟩]
    exact Ev.now _
   ·exact Ev.ite_neg (by rw [decide_eq_false e2]; decide) (Ev.now _)
  ·exact Ev.ite_neg (by rw [decide_eq_false e1]; decide) (Ev.now _)
 | succ d ih =>
  intro i hi
  have hlt : i < (basM l a b).length := by omega
  have h1 := mem_basM.1 (List.getElem_mem hlt)
  have hx := ancS_ok hok (mem_ancS.2 h1.1.1)
  have hn' := ih (i + 1) (by omega)
  rw [← take_snoc _ i hlt, List.any_append, List.any_cons, List.any_nil, Bool.or_false] at hn'
  refine Ev.step (fun k => by rw [l26_HistoryBases.l0, if_pos (show (i : Int) < ((basM l a b).length : Int) by omega), if_pos (by omega), rd_nat _ i hlt]) (Ev.bind (hIs_is hr hok _ a hx) (Ev.ite_pos (isM_anc hr h1.1.1) (Ev.bind (hIs_is hr hok _ b hx) ?_)))
  rw [show isM l (basM l a b)[i] b = true from isM_anc hr h1.1.2]
  refine Ev.step (fun k => by rw [l26_HistoryBases.j1, if_neg (by decide)]) ?_
  exact bas_l1 hr hok n a b hn _ i hlt hn' (basM l a b).length 0 (by omega)
theorem HistoryBases : StHistoryBases.Pure := by
 intro U l x n hl hx hn
 refine Ev.rounds (Ev.congr (fun k => rfl) (Ev.bind alive26 (Ev.ite_pos rfl (Ev.bind (right_is l) ?_))))
 cases hf : rightL l with
 | false => exact Ev.ite_neg (by decide) (Ev.now _)
 | true =>
  have hr := right_of hf
  have hok : okHs l = true := List.all_eq_true.2 (fun c hc => okV_wf (hl.2.2.2 c hc).1)
  refine Ev.ite_pos rfl (Ev.bind (hBas_is hr hok x.f0 x.f1) ?_)
  have := bas_l0 hr hok n x.f0 x.f1 (okV_wf hn) (basM l x.f0 x.f1).length 0 (by omega)
  rw [List.take_zero, List.any_nil] at this
  exact this
end Go.Proofs.YtgadbpljlpclnaaGreatDoor.Pure
