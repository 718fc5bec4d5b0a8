/- What the laws of this chapter share, over lists. -/
import Derived.Test.YtgadbpljlpclnaaGreatDoorHx25
import Derived.Test.YtgadbpljlpclnaaGreatDoorQRead
import Derived.KernelRfl
import Derived.Test.YtgadbpljlpclnaaGreatDoorHQ26O
/-! What is to be proved of HistoryOrder, over numbers and lists alone; how its arguments are read. -/
namespace Go.Proofs.YtgadbpljlpclnaaGreatDoor.StHistoryOrder
open Go.RowKit Go.Proofs.YtgadbpljlpclnaaGreatDoor.H Go.Proofs.YtgadbpljlpclnaaGreatDoor.Q Go.Proofs.YtgadbpljlpclnaaGreatDoorW.PrintWords Go.Proofs.YtgadbpljlpclnaaGreatDoorW.PrintLast
set_option linter.unusedVariables false
/-! #### struct type 49 -/
structure S49 where
 f0 : Int
 f1 : Int
 f2 : Int
def z49 : S49 := ⟨(0 : Int), (0 : Int), (0 : Int)⟩
def k49 : Kd S49 := Kd.iso (Kd.pair (Kd.int .i64) (Kd.pair (Kd.int .i64) (Kd.int .i64))) (fun x : S49 => (x.f0, x.f1, x.f2))
theorem k49_open {w : World} {x : S49} {cs : List Value} (h : k49.K w x cs) : cs = [.int .i64 x.f0, .int .i64 x.f1, .int .i64 x.f2] := by
 obtain ⟨_, _, rfl, rfl, ⟨_, _, rfl, rfl, rfl⟩⟩ := h
 exact rfl
theorem k49_openM {w : World} {base : Nat} {ok : Nat → Prop} {x : S49} {cs : List Value} (h : k49.M w base ok x cs) : cs = [.int .i64 x.f0, .int .i64 x.f1, .int .i64 x.f2] := by
 obtain ⟨_, _, rfl, rfl, ⟨_, _, rfl, rfl, rfl⟩⟩ := h
 exact rfl
theorem k49_mk (w : World) (x : S49)  : k49.K w x [.int .i64 x.f0, .int .i64 x.f1, .int .i64 x.f2] := ⟨[.int .i64 x.f0], [.int .i64 x.f1, .int .i64 x.f2], rfl, rfl, ⟨[.int .i64 x.f1], [.int .i64 x.f2], rfl, rfl, rfl⟩⟩
theorem k49_mkM (w : World) (base : Nat) (ok : Nat → Prop) (x : S49)  : k49.M w base ok x [.int .i64 x.f0, .int .i64 x.f1, .int .i64 x.f2] := ⟨[.int .i64 x.f0], [.int .i64 x.f1, .int .i64 x.f2], rfl, rfl, ⟨[.int .i64 x.f1], [.int .i64 x.f2], rfl, rfl, rfl⟩⟩
def rd_T49 (xs : List S49) (i : Int) : S49 := xs.getD i.toNat z49
theorem at_T49 {w : World} {A : Option Addr} {n : Nat} {xs : List S49} (h : Kd.C k49 w A n xs) (i : Int) (h0 : 0 ≤ i) (h1 : i < n) : ∃ ad , A = some ad ∧ w.cell? (ad.add (i.toNat * 3)) = some (.int .i64 (rd_T49 xs i).f0) ∧ w.cell? ⟨(ad.add (i.toNat * 3)).block, (ad.add (i.toNat * 3)).off + 1, none⟩ = some (.int .i64 (rd_T49 xs i).f1) ∧ w.cell? ⟨(ad.add (i.toNat * 3)).block, (ad.add (i.toNat * 3)).off + 2, none⟩ = some (.int .i64 (rd_T49 xs i).f2) := by
 obtain ⟨ad, c, e, _, hK, hc0⟩ := Kd.C_get h z49 i h0 h1
 have hc : ∀ j u, c[j]? = some u → w.cell? (ad.add (i.toNat * 3 + j)) = some u := hc0
 obtain rfl := k49_open hK
 exact ⟨ad, e, hc 0 _ rfl, by rw [← add_field _ _ 1 (by omega)]; exact hc 1 _ rfl, by rw [← add_field _ _ 2 (by omega)]; exact hc 2 _ rfl⟩

def g53 (U : Nat) (x : S53) : Prop := (x.f0.size ≤ 140737488351232 ∧ x.f0.size ≤ U) ∧ (Lit.int .i64 x.f1).wf = true
theorem rd53 : Rd Tryz.prog k53 53 g53 := Rd.struct (ts := [9, 3]) (fun a => (⟨a.1, a.2⟩ : S53)) (fun a => rfl) Tryz.underlying53 (by kernel_rfl) (by kernel_rfl) (RdF.cons (Rd.string Tryz.underlying9) (RdF.one (Rd.int Tryz.underlying3)))
def g28 (U : Nat) (x : S28) : Prop := (Lit.int .i64 x.f0).wf = true ∧ (x.f1.length * 8 ≤ 140737488351232 ∧ x.f1.length ≤ maxLen ∧ x.f1.length ≤ U ∧ ∀ y ∈ x.f1, (Lit.int .i64 y).wf = true) ∧ (x.f2.length * 24 ≤ 140737488351232 ∧ x.f2.length ≤ maxLen ∧ x.f2.length ≤ U ∧ ∀ y ∈ x.f2, g53 U y) ∧ (Lit.int .i64 x.f3).wf = true ∧ (Lit.int .i64 x.f4).wf = true
theorem rd28 : Rd Tryz.prog k28 28 g28 := Rd.struct (ts := [3, 25, 26, 3, 3]) (fun a => (⟨a.1, a.2.1, a.2.2.1, a.2.2.2.1, a.2.2.2.2⟩ : S28)) (fun a => rfl) Tryz.underlying28 (by kernel_rfl) (by kernel_rfl) (RdF.cons (Rd.int Tryz.underlying3) (RdF.cons (Rd.slice (B := 8) Tryz.underlying25 (by kernel_rfl) (by kernel_rfl) (Rd.int Tryz.underlying3)) (RdF.cons (Rd.slice (B := 24) Tryz.underlying26 (by kernel_rfl) (by kernel_rfl) rd53) (RdF.cons (Rd.int Tryz.underlying3) (RdF.one (Rd.int Tryz.underlying3))))))
def g49 (U : Nat) (x : S49) : Prop := (Lit.int .i64 x.f0).wf = true ∧ (Lit.int .i64 x.f1).wf = true ∧ (Lit.int .i64 x.f2).wf = true
theorem rd49 : Rd Tryz.prog k49 49 g49 := Rd.array (ts := [3, 3, 3]) (fun a => (⟨a.1, a.2.1, a.2.2⟩ : S49)) (fun a => rfl) Tryz.underlying49 (by kernel_rfl) (by kernel_rfl) (RdF.cons (Rd.int Tryz.underlying3) (RdF.cons (Rd.int Tryz.underlying3) (RdF.one (Rd.int Tryz.underlying3))))
/-- THE PURE STATEMENT. -/
def Pure : Prop := ∀ (U : Nat) (x0 : List (S28)) (x1 : S49), (x0.length * 72 ≤ 140737488351232 ∧ x0.length ≤ maxLen ∧ x0.length ≤ U ∧ ∀ y ∈ x0, g28 U y) → g49 U x1 → ∃ k, l26_HistoryOrder.f k x0 x1.f0 x1.f1 x1.f2 = some true
end Go.Proofs.YtgadbpljlpclnaaGreatDoor.StHistoryOrder

/-! HistoryOrder, over lists alone. -/
namespace Go.Proofs.YtgadbpljlpclnaaGreatDoor.Pure
open Go.RowKit Go.Proofs.YtgadbpljlpclnaaGreatDoorW.PrintWords Go.Proofs.YtgadbpljlpclnaaGreatDoorW.PrintLast Go.Proofs.YtgadbpljlpclnaaGreatDoorW.PrintMore Go.Proofs.YtgadbpljlpclnaaGreatDoor.H Go.Proofs.YtgadbpljlpclnaaGreatDoor.Q
set_option linter.unusedVariables false
set_option linter.unusedSimpArgs false
theorem ord_end {l : List CM} (hr : RightL l) (hok : okHs l = true) (a b : Int) : Ev (fun k => (history_Bases.f k l a b).bind fun ah => (history_Bases.f k l b a).bind fun ai => (r05_Same.f k ah ai).bind fun aj => some aj) true := by
 have hlen := basM_len hr b a
 refine Ev.bind (hBas_is hr hok a b) (Ev.bind (hBas_is hr hok b a) ?_)
 rw [basM_symm l a b]
 exact Ev.bind (Same_self _ (by omega)) (Ev.now _)
theorem ord_l0 {l : List CM} (hr : RightL l) (hok : okHs l = true) (a b c0 c3 c4 : Int) (c2 : List SC) (ps : List Int) (hn : ps.length ≤ 1000) (hp : ∀ p ∈ ps, isM l p a = true ∧ okV p = true) : ∀ d (i : Nat), i + d = ps.length → Ev (fun k => l26_HistoryOrder.l0 k l a b (i : Int) c0 ps c2 c3 c4) true := by
 intro d
 induction d with
 | zero =>
  intro i hi
  refine Ev.step (fun k => by rw [l26_HistoryOrder.l0, if_neg (by omega)]) (ord_end hr hok a b)
 | succ d ih =>
  intro i hi
  have hlt : i < ps.length := by omega
  obtain ⟨h1, h2⟩ := hp _ (List.getElem_mem hlt)
  refine Ev.step (fun k => by rw [l26_HistoryOrder.l0, if_pos (show (i : Int) < (ps.length : Int) by omega), if_pos (by omega), rd_nat ps i hlt, w1 i (by omega)]) (Ev.bind (hIs_is hr hok _ a h2) ?_)
  rw [h1]
  exact Ev.ite_pos rfl (ih (i + 1) (by omega))
theorem HistoryOrder : StHistoryOrder.Pure := by
 intro U l n hl hn
 refine Ev.rounds (Ev.congr (fun k => rfl) (Ev.bind alive26 (Ev.ite_pos rfl (Ev.bind (right_is l) ?_))))
 cases hf : rightL l with
 | false => exact Ev.ite_neg (by decide) (Ev.now _)
 | true =>
  have hr := right_of hf
  have hok : okHs l = true := List.all_eq_true.2 (fun c hc => okV_wf (hl.2.2.2 c hc).1)
  have ha := okV_wf hn.1
  have hb := okV_wf hn.2.1
  have hllen := hr.len
  generalize n.f0 = a at ha
  generalize n.f1 = b at hb
  generalize n.f2 = c
  have hj2 : Ev (fun k => l26_HistoryOrder.j2 k l a b false (getR l a).1 (getR l a).2.1 (getR l a).2.2.1 (getR l a).2.2.2.1 (getR l a).2.2.2.2.1) true := by
   refine Ev.step (fun k => by rw [l26_HistoryOrder.j2, if_neg (by decide)]) ?_
   refine ord_l0 hr hok a b _ _ _ _ _ (by have := (getR_few hr a).1; omega) (fun p hp => ?_) (getR l a).2.1.length 0 (by omega)
   cases hg : getH l a with
   | none => rw [getR_none hg] at hp; cases hp
   | some c =>
    rw [getR_some hg] at hp
    have hs : (getH l a).isSome = true := by rw [hg]; rfl
    have h2 : Anc l a p := Anc.up (Anc.self hs) hg hp (hr.lt hg hp).2
    exact ⟨isM_anc hr h2, ancS_ok hok (mem_ancS.2 h2)⟩
  have hj1 : Ev (fun k => l26_HistoryOrder.j1 k l a b false) true := by
   refine Ev.step (fun k => by rw [l26_HistoryOrder.j1, if_neg (by decide)]) (Ev.bind (hGet_is l a (by omega)) ?_)
   by_cases e : (getR l a).2.2.2.2.2 = true
   ·refine Ev.ite_pos e ?_
    by_cases e0 : a = 0
    ·exact Ev.ite_pos e0 hj2
    ·refine Ev.ite_neg e0 (Ev.bind (hIs_is hr hok a a ha) ?_)
     rw [show isM l a a = true from (isM_ne e0).2 (Anc.self (by rw [← getR_ok]; exact e))]
     exact hj2
   ·exact Ev.ite_neg e hj2
  have hj0 : Ev (fun k => l26_HistoryOrder.j0 k l a b (isM l a b) false) true := by
   refine Ev.step (fun k => by rw [l26_HistoryOrder.j0, if_neg (by decide)]) ?_
   cases hab : isM l a b with
   | false => exact Ev.ite_neg (by decide) hj1
   | true =>
    refine Ev.ite_pos rfl ?_
    by_cases e0 : a = 0
    ·exact Ev.ite_pos e0 hj1
    ·refine Ev.ite_neg e0 (Ev.bind (hBas_is hr hok a b) ?_)
     rw [basM_of hr ((isM_ne e0).1 hab)]
     exact Ev.bind (Same_self _ (by simp)) hj1
  have hba : isM l a b = true → Ev (fun k => (history_Is.f k l b a).bind fun ai => if ai = true then l26_HistoryOrder.j0 k l a b (isM l a b) (a != b) else l26_HistoryOrder.j0 k l a b (isM l a b) false) true := by
   intro hab
   refine Ev.bind (hIs_is hr hok b a hb) ?_
   cases hba : isM l b a with
   | false => exact Ev.ite_neg (by decide) hj0
   | true =>
    have e := isM_anti hr hab hba
    refine Ev.ite_pos rfl ?_
    rw [show (a != b) = false by simp [e]]
    exact hj0
  refine Ev.ite_pos rfl (Ev.bind (hIs_is hr hok a b ha) (Ev.bind (hIs_is hr hok b c hb) ?_))
  by_cases hab : isM l a b = true
  ·refine Ev.ite_pos hab ?_
   by_cases hbc : isM l b c = true
   ·refine Ev.ite_pos hbc (Ev.bind (hIs_is hr hok a c ha) (Ev.ite_pos (isM_trans hr hab hbc) (hba hab)))
   ·exact Ev.ite_neg hbc (hba hab)
  ·exact Ev.ite_neg hab hj0
end Go.Proofs.YtgadbpljlpclnaaGreatDoor.Pure
