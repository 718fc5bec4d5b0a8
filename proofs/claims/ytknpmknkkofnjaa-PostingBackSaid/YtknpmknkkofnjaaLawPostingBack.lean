/- PostingBack: for every input the call returns true, and each argument reads afterwards as it read before. -/
import Derived.Test.YtknpmknkkofnjaaRows
import Derived.Test.YtknpmknkkofnjaaPx15
import Derived.Test.YtknpmknkkofnjaaStPostingBack
import Derived.Test.YtknpmknkkofnjaaPurePostingBack
import Derived.WalkKit
import Derived.ProofKit
import Derived.OpenShut
import Derived.ShutString
import Derived.ChangeOld
import Derived.Below
import Derived.SizedLaws
namespace Go.Proofs.Ytknpmknkkofnjaa.postingBack
open Go.ChangeShapes Go.WideShapes Go.ChangeAt Go.RowKit Go.Proofs.Ytknpmknkkofnjaa.P Go.Proofs.Ytknpmknkkofnjaa.Q Go.Proofs.Ytknpmknkkofnjaa.StPostingBack Go.Proofs.YtknpmknkkofnjaaW.PrintWords Go.Proofs.YtknpmknkkofnjaaW.PrintLast
open Go.ChangeMaps (open_string shut_string)
set_option linter.unusedVariables false
theorem own : ownKnob Try.prog.godebug = none := by kernel_rfl
theorem laidOut : laidOutB Try.prog = true := by kernel_rfl
set_option maxRecDepth 100000 in
theorem lifted (os : Os) (started : os.Started) (H : Type) (enc : TypeId × Value → H) :
    ReturnsInHanded {} Try.checked os 8 .any (Rows.postingBackSpec.pre6 enc Try.prog Try.f8 Rows.postingBackRow.domain false) (Rows.postingBackSpec.post enc Try.prog Try.f8 false true false false) := by
  refine returnsInHanded_of_change_sized (C := Try.checked) own started (by kernel_rfl) Try.func8
    (ChangeSpec.witness6 (enc := enc) (C := Try.checked) false ⟨#[], #[.slice none 0 0, .slice none 0 0], []⟩ 8 (by kernel_rfl) (by kernel_rfl) (by kernel_rfl) (by kernel_rfl)) ?_
  intro W base args ds gs before hval0 hW hcnd hsz0 _
  obtain ⟨U, hU⟩ : ∃ U, Rows.uptoBulkAll (ds ++ gs) ≤ U := ⟨_, Nat.le_refl _⟩
  have hsz : (DataW.weightsEach Try.prog (Try.f8.params.toList ++ Rows.postingBackSpec.plain.varTypes Try.prog) (ds ++ gs)).all (· ≤ reachBytes) = true := hsz0
  have hval : ∀ (j : Nat) t v, Try.f8.params[j]? = some t → args[j]? = some v → Value.okWide Try.prog W .any base t v := hval0
  have hW' := hW
  obtain ⟨p, q, hA0, hV, rfl, hfz, hnd⟩ := hW
  have hA : DataW.TrodAll enc Try.prog W 0 (fun _ => true) true Try.f8.params.toList args.toList ds p := hA0
  rw [Try.params8] at hA hval hsz
  obtain ⟨v0, vs0, d0, ds0, p0, q0, hargs, rfl, rfl, h0, r0⟩ := trodAll_cons hA
  obtain ⟨v1, vs1, d1, ds1, p1, q1, rfl, rfl, rfl, h1, r1⟩ := trodAll_cons r0
  obtain ⟨rfl, rfl, rfl⟩ := trodAll_nil r1
  obtain rfl : args = #[v0, v1] := by cases args; simp_all
  obtain ⟨rfl, rfl⟩ := trodVars_none hV
  have k0 := h0
  have lt0 : ∀ x ∈ p0, x.block < W.heap.size := by obtain ⟨m, hm⟩ := k0; exact DataW.trod_lt m _ _ _ hm
  obtain ⟨a0, len0, cap0, rfl⟩ := okWide_slice Try.underlying22 (hval 0 22 v0 rfl rfl)
  obtain ⟨x0, rfl, c0, C0, G0⟩ := (show Rd Try.prog (Kd.slice 3 (Kd.int .i64)) 22 _ from (Rd.slice (B := 8) Try.underlying22 (by kernel_rfl) (by kernel_rfl) (Rd.int Try.underlying3))).arg_slice hsz (j := 0) (t := 22) rfl rfl hU h0
  have k1 := h1
  have lt1 : ∀ x ∈ p1, x.block < W.heap.size := by obtain ⟨m, hm⟩ := k1; exact DataW.trod_lt m _ _ _ hm
  obtain ⟨a1, len1, cap1, rfl⟩ := okWide_slice Try.underlying30 (hval 1 30 v1 rfl rfl)
  obtain ⟨x1, rfl, c1, C1, G1⟩ := (show Rd Try.prog (Kd.slice 5 (Kd.int .u8)) 30 _ from (Rd.slice (B := 1) Try.underlying30 (by kernel_rfl) (by kernel_rfl) (Rd.int Try.underlying5))).arg_slice hsz (j := 1) (t := 30) rfl rfl hU h1
  clear hA0 hval0 hsz0 hsz
  obtain ⟨k, hk⟩ := Pure.PostingBack U x0 x1 G0 G1
  refine (codesearchlaw05_PostingBack.calls k _ _ _ _ _ _ true W C0 c0 C1 c1 hk).mono ?_
  rintro e W' ⟨rfl, hd⟩
  have bel : Below W.heap.size W W' := hd
  exact ⟨_, rfl, _, _, _, [], _, [], hW', trodAll_mk1 (shut_bool Try.underlying4 _), (trodAll_cons_mk (Below.trod laidOut (by kernel_rfl) (of_decide_eq_true (by kernel_rfl)) k0 bel lt0) (trodAll_cons_mk (Below.trod laidOut (by kernel_rfl) (of_decide_eq_true (by kernel_rfl)) k1 bel lt1) trodAll_mk0)), rfl, bel.frame _, fun h => by cases h⟩
theorem over : Rows.postingBackRow.holds Try.pinned (OpenSpec.ofChange Rows.postingBackSpec) :=
  OpenClaim.holds_of_wide 8 Try.f8 rfl rfl rfl rfl rfl rfl rfl ⟨rfl, rfl, rfl, rfl, rfl⟩ rfl rfl rfl rfl rfl (by kernel_rfl) Try.func8 (by kernel_rfl)
    (of_decide_eq_true (by kernel_rfl)) (by unfold Func.isWrapper; first | (rw [if_pos (by decide +kernel)]; kernel_rfl) | (rw [if_neg (by decide +kernel)]; exact ⟨rfl, rfl⟩))
    (fun os started H enc _ => lifted os started H enc)
theorem proved : Rows.PostingBackSaid := over
#print axioms proved
end Go.Proofs.Ytknpmknkkofnjaa.postingBack
namespace Go.Proofs.Ytknpmknkkofnjaa
/-- The row, under a short name, for the claim. -/
theorem postingBack_holds : Rows.PostingBackSaid := postingBack.proved
end Go.Proofs.Ytknpmknkkofnjaa
