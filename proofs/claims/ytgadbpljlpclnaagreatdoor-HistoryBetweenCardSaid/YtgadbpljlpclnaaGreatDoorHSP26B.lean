/- What the laws of this chapter share, over lists. -/
import Derived.Test.YtgadbpljlpclnaaGreatDoorHx24
import Derived.Test.YtgadbpljlpclnaaGreatDoorQRead
import Derived.KernelRfl
import Derived.Test.YtgadbpljlpclnaaGreatDoorHQ26B
/-! What is to be proved of HistoryBetween, over numbers and lists alone; how its arguments are read. -/
namespace Go.Proofs.YtgadbpljlpclnaaGreatDoor.StHistoryBetween
open Go.RowKit Go.Proofs.YtgadbpljlpclnaaGreatDoor.H Go.Proofs.YtgadbpljlpclnaaGreatDoor.Q Go.Proofs.YtgadbpljlpclnaaGreatDoorW.PrintWords Go.Proofs.YtgadbpljlpclnaaGreatDoorW.PrintLast
set_option linter.unusedVariables false
/-! #### struct type 46 -/
structure S46 where
 f0 : Int
 f1 : Int
def z46 : S46 := ⟨(0 : Int), (0 : Int)⟩
def k46 : Kd S46 := Kd.iso (Kd.pair (Kd.int .i64) (Kd.int .i64)) (fun x : S46 => (x.f0, x.f1))
theorem k46_open {w : World} {x : S46} {cs : List Value} (h : k46.K w x cs) : cs = [.int .i64 x.f0, .int .i64 x.f1] := by
 obtain ⟨_, _, rfl, rfl, rfl⟩ := h
 exact rfl
theorem k46_openM {w : World} {base : Nat} {ok : Nat → Prop} {x : S46} {cs : List Value} (h : k46.M w base ok x cs) : cs = [.int .i64 x.f0, .int .i64 x.f1] := by
 obtain ⟨_, _, rfl, rfl, rfl⟩ := h
 exact rfl
theorem k46_mk (w : World) (x : S46)  : k46.K w x [.int .i64 x.f0, .int .i64 x.f1] := ⟨[.int .i64 x.f0], [.int .i64 x.f1], rfl, rfl, rfl⟩
theorem k46_mkM (w : World) (base : Nat) (ok : Nat → Prop) (x : S46)  : k46.M w base ok x [.int .i64 x.f0, .int .i64 x.f1] := ⟨[.int .i64 x.f0], [.int .i64 x.f1], rfl, rfl, rfl⟩
def rd_T46 (xs : List S46) (i : Int) : S46 := xs.getD i.toNat z46
theorem at_T46 {w : World} {A : Option Addr} {n : Nat} {xs : List S46} (h : Kd.C k46 w A n xs) (i : Int) (h0 : 0 ≤ i) (h1 : i < n) : ∃ ad , A = some ad ∧ w.cell? (ad.add (i.toNat * 2)) = some (.int .i64 (rd_T46 xs i).f0) ∧ w.cell? ⟨(ad.add (i.toNat * 2)).block, (ad.add (i.toNat * 2)).off + 1, none⟩ = some (.int .i64 (rd_T46 xs i).f1) := by
 obtain ⟨ad, c, e, _, hK, hc0⟩ := Kd.C_get h z46 i h0 h1
 have hc : ∀ j u, c[j]? = some u → w.cell? (ad.add (i.toNat * 2 + j)) = some u := hc0
 obtain rfl := k46_open hK
 exact ⟨ad, e, hc 0 _ rfl, by rw [← add_field _ _ 1 (by omega)]; exact hc 1 _ rfl⟩

def g53 (U : Nat) (x : S53) : Prop := (x.f0.size ≤ 140737488351232 ∧ x.f0.size ≤ U) ∧ (Lit.int .i64 x.f1).wf = true
theorem rd53 : Rd Tryz.prog k53 53 g53 := Rd.struct (ts := [9, 3]) (fun a => (⟨a.1, a.2⟩ : S53)) (fun a => rfl) Tryz.underlying53 (by kernel_rfl) (by kernel_rfl) (RdF.cons (Rd.string Tryz.underlying9) (RdF.one (Rd.int Tryz.underlying3)))
def g28 (U : Nat) (x : S28) : Prop := (Lit.int .i64 x.f0).wf = true ∧ (x.f1.length * 8 ≤ 140737488351232 ∧ x.f1.length ≤ maxLen ∧ x.f1.length ≤ U ∧ ∀ y ∈ x.f1, (Lit.int .i64 y).wf = true) ∧ (x.f2.length * 24 ≤ 140737488351232 ∧ x.f2.length ≤ maxLen ∧ x.f2.length ≤ U ∧ ∀ y ∈ x.f2, g53 U y) ∧ (Lit.int .i64 x.f3).wf = true ∧ (Lit.int .i64 x.f4).wf = true
theorem rd28 : Rd Tryz.prog k28 28 g28 := Rd.struct (ts := [3, 25, 26, 3, 3]) (fun a => (⟨a.1, a.2.1, a.2.2.1, a.2.2.2.1, a.2.2.2.2⟩ : S28)) (fun a => rfl) Tryz.underlying28 (by kernel_rfl) (by kernel_rfl) (RdF.cons (Rd.int Tryz.underlying3) (RdF.cons (Rd.slice (B := 8) Tryz.underlying25 (by kernel_rfl) (by kernel_rfl) (Rd.int Tryz.underlying3)) (RdF.cons (Rd.slice (B := 24) Tryz.underlying26 (by kernel_rfl) (by kernel_rfl) rd53) (RdF.cons (Rd.int Tryz.underlying3) (RdF.one (Rd.int Tryz.underlying3))))))
def g46 (U : Nat) (x : S46) : Prop := (Lit.int .i64 x.f0).wf = true ∧ (Lit.int .i64 x.f1).wf = true
theorem rd46 : Rd Tryz.prog k46 46 g46 := Rd.array (ts := [3, 3]) (fun a => (⟨a.1, a.2⟩ : S46)) (fun a => rfl) Tryz.underlying46 (by kernel_rfl) (by kernel_rfl) (RdF.cons (Rd.int Tryz.underlying3) (RdF.one (Rd.int Tryz.underlying3)))
/-- THE PURE STATEMENT. -/
def Pure : Prop := ∀ (U : Nat) (x0 : List (S28)) (x1 : S46) (x2 : Int), (x0.length * 72 ≤ 140737488351232 ∧ x0.length ≤ maxLen ∧ x0.length ≤ U ∧ ∀ y ∈ x0, g28 U y) → g46 U x1 → (Lit.int .i64 x2).wf = true → ∃ k, l26_HistoryBetween.f k x0 x1.f0 x1.f1 x2 = some true
end Go.Proofs.YtgadbpljlpclnaaGreatDoor.StHistoryBetween

/-! HistoryBetween, over lists alone. -/
namespace Go.Proofs.YtgadbpljlpclnaaGreatDoor.Pure
open Go.RowKit Go.Proofs.YtgadbpljlpclnaaGreatDoorW.PrintWords Go.Proofs.YtgadbpljlpclnaaGreatDoorW.PrintLast Go.Proofs.YtgadbpljlpclnaaGreatDoorW.PrintMore Go.Proofs.YtgadbpljlpclnaaGreatDoor.H Go.Proofs.YtgadbpljlpclnaaGreatDoor.Q
set_option linter.unusedVariables false
set_option linter.unusedSimpArgs false
theorem HistoryBetween : StHistoryBetween.Pure := by
 intro U l x n hl hx hn
 refine Ev.rounds (Ev.congr (fun k => rfl) (Ev.bind alive26 (Ev.ite_pos rfl (Ev.bind (right_is l) ?_))))
 cases hf : rightL l with
 | false => exact Ev.ite_neg (by decide) (Ev.now _)
 | true =>
  have hr := right_of hf
  have hok : okHs l = true := List.all_eq_true.2 (fun c hc => okV_wf (hl.2.2.2 c hc).1)
  obtain ⟨r0, e0, m0, l0⟩ := hanc_is hr hok x.f0
  obtain ⟨r1, e1, m1, l1⟩ := hanc_is hr hok x.f1
  have E0 : Ev (fun k => history_Ancestors.f k l x.f0) (uniq r0) := Ev.congr (fun k => Option.map_eq_bind) (Ev.bind e0 (Ev.now _))
  have E1 : Ev (fun k => history_Ancestors.f k l x.f1) (uniq r1) := Ev.congr (fun k => Option.map_eq_bind) (Ev.bind e1 (Ev.now _))
  have EB : Ev (fun k => history_Between.f k l x.f0 x.f1) ((uniq r1).filter fun y => !decide (y ∈ r0)) := Ev.congr (fun k => rfl) (Ev.bind e0 (Ev.congr (fun k => Option.map_eq_bind) (Ev.bind E1 (Ev.now _))))
  have u0 := uniq_len r0
  have u1 := uniq_len r1
  have u2 : ((uniq r1).filter fun y => !decide (y ∈ r0)).length ≤ (uniq r1).length := List.length_filter_le _ _
  refine Ev.ite_pos rfl (Ev.bind E0 (Ev.bind (In_go _ n (by omega)) (Ev.bind E1 (Ev.bind (In_go _ n (by omega)) (Ev.bind EB (Ev.bind (In_go _ n (by omega)) ?_))))))
  have hB : decide (n ∈ (uniq r1).filter fun y => !decide (y ∈ r0)) = (decide (n ∈ uniq r1) && !decide (n ∈ uniq r0)) := by
   rw [Bool.eq_iff_iff]
   simp only [decide_eq_true_eq, List.mem_filter, Bool.and_eq_true, Bool.not_eq_true', decide_eq_false_iff_not, mem_uniq]
  rw [hB]
  cases decide (n ∈ uniq r1) with
  | true =>
   refine Ev.ite_pos rfl ?_
   simpa using Ev.now true
  | false =>
   refine Ev.ite_neg (by decide) ?_
   simpa using Ev.now true
end Go.Proofs.YtgadbpljlpclnaaGreatDoor.Pure
