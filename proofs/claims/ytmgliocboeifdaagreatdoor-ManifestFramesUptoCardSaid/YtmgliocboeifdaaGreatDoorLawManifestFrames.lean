/- ManifestFrames: for every input the call returns true, and each argument reads afterwards as it read before. -/
import Derived.Test.YtmgliocboeifdaaGreatDoorFQLaid
import Derived.Test.YtmgliocboeifdaaGreatDoorCards
import Derived.Test.YtmgliocboeifdaaGreatDoorTie
import Derived.Lay
import Derived.SevenTiedAt
import Derived.MakeChecks
import Derived.LaidLaws
import Derived.LaidOnce
import Derived.JoinedCond
import Derived.Deep.CondSized
import Derived.Test.YtmgliocboeifdaaGreatDoorRows
import Derived.Test.YtmgliocboeifdaaGreatDoorFx24
import Derived.Test.YtmgliocboeifdaaGreatDoorStManifestFrames
import Derived.Test.YtmgliocboeifdaaGreatDoorPureManifestFrames
import Derived.WalkKit
import Derived.ProofKit
import Derived.OpenShut
import Derived.ShutString
import Derived.ChangeOld
import Derived.Below
import Derived.SizedLaws
namespace Go.Proofs.YtmgliocboeifdaaGreatDoor.manifestFrames
open Go.ChangeShapes Go.WideShapes Go.ChangeAt Go.RowKit Go.Proofs.YtmgliocboeifdaaGreatDoor.F Go.Proofs.YtmgliocboeifdaaGreatDoor.Q Go.Proofs.YtmgliocboeifdaaGreatDoor.StManifestFrames Go.Proofs.YtmgliocboeifdaaGreatDoorW.PrintWords Go.Proofs.YtmgliocboeifdaaGreatDoorW.PrintLast
open Go.ChangeMaps (open_string shut_string)
set_option linter.unusedVariables false
theorem own : ownKnob Tryz.prog.godebug = none := by kernel_rfl
theorem laidOut : laidOutB Tryz.prog = true := by kernel_rfl
set_option maxRecDepth 100000 in
theorem lifted (os : Os) (started : os.Started) (H : Type) (enc : TypeId × Value → H) (F : Stop.Interp) :
    ReturnsInHanded {} Tryz.checked os 5 .any (fun w args => ((Rows.OpenSpec.upto Rows.manifestFramesSpec).pre enc Tryz.prog Tryz.f5 [] false w args ∧ laidMetH Tryz.prog Rows.manifestFramesUptoRow.laid w) ∧ sizedMet enc Tryz.prog Tryz.f5 (Rows.OpenSpec.upto Rows.manifestFramesSpec) false w args) (((Rows.OpenSpec.upto Rows.manifestFramesSpec).at F).post enc Tryz.prog Tryz.f5 false true false false) := by
  refine QLaid.returns_of_cond_laid (C := Tryz.checked) (s := (Rows.OpenSpec.upto Rows.manifestFramesSpec)) (k := Rows.uptoSmall) (X := fun w _ => laidMetH Tryz.prog Rows.manifestFramesUptoRow.laid w) rfl (fun _ _ _ hh h => h.of_heap hh) own started (by kernel_rfl) Tryz.func5
    (QLaid.witness_cond_laid (enc := enc) (C := Tryz.checked) (os := os) (s := (Rows.OpenSpec.upto Rows.manifestFramesSpec)) (k := Rows.uptoSmall) (X := fun w _ => laidMetH Tryz.prog Rows.manifestFramesUptoRow.laid w) rfl false (World.laidAll Tryz.prog os Rows.manifestFramesUptoRow.laid) #[.slice none 0 0, .slice none 0 0] 8 (World.laidAll_os _ _ _)
      (World.shaped_of_ZipB (by kernel_rfl) (by kernel_rfl)) (by kernel_rfl) (x := ([.nil, .nil], [], [])) (by kernel_rfl) rfl (by kernel_rfl) (by kernel_rfl)
      (by rw [MakeChecks.laidMetH_plain _ _ _ (by kernel_rfl)]; exact laidMet_laidAll _ (by kernel_rfl) (by kernel_rfl))) ?_
  intro W base args ds gs before hval0 hW _ hkU hsz0 hL _
  have hU : Rows.uptoBulkAll (ds ++ gs) ≤ 1048576 := bound hkU
  have hsz : (DataW.weightsEach Tryz.prog (Tryz.f5.params.toList ++ Rows.manifestFramesSpec.plain.varTypes Tryz.prog) (ds ++ gs)).all (· ≤ reachBytes) = true := hsz0
  have hval : ∀ (j : Nat) t v, Tryz.f5.params[j]? = some t → args[j]? = some v → Value.okWide Tryz.prog W .any base t v := hval0
  have hW' := hW
  obtain ⟨p, q, hA0, hV, rfl, hfz, hnd⟩ := hW
  have hA : DataW.TrodAll enc Tryz.prog W 0 (fun _ => true) true Tryz.f5.params.toList args.toList ds p := hA0
  rw [Tryz.params5] at hA hval hsz
  obtain ⟨v0, vs0, d0, ds0, p0, q0, hargs, rfl, rfl, h0, r0⟩ := trodAll_cons hA
  obtain ⟨v1, vs1, d1, ds1, p1, q1, rfl, rfl, rfl, h1, r1⟩ := trodAll_cons r0
  obtain ⟨rfl, rfl, rfl⟩ := trodAll_nil r1
  obtain rfl : args = #[v0, v1] := by cases args; simp_all
  obtain ⟨rfl, rfl⟩ := trodVars_none hV
  have k0 := h0
  have lt0 : ∀ x ∈ p0, x.block < W.heap.size := by obtain ⟨m, hm⟩ := k0; exact DataW.trod_lt m _ _ _ hm
  obtain ⟨a0, len0, cap0, rfl⟩ := okWide_slice Tryz.underlying22 (hval 0 22 v0 rfl rfl)
  obtain ⟨x0, rfl, c0, C0, G0⟩ := (show Rd Tryz.prog (Kd.slice 30 k30) 22 _ from (Rd.slice (B := 96) Tryz.underlying22 (by kernel_rfl) (by kernel_rfl) rd30)).arg_slice hsz (j := 0) (t := 22) rfl rfl hU h0
  have k1 := h1
  have lt1 : ∀ x ∈ p1, x.block < W.heap.size := by obtain ⟨m, hm⟩ := k1; exact DataW.trod_lt m _ _ _ hm
  obtain ⟨a1, len1, cap1, rfl⟩ := okWide_slice Tryz.underlying31 (hval 1 31 v1 rfl rfl)
  obtain ⟨x1, rfl, c1, C1, G1⟩ := (show Rd Tryz.prog (Kd.slice 5 (Kd.int .u8)) 31 _ from (Rd.slice (B := 1) Tryz.underlying31 (by kernel_rfl) (by kernel_rfl) (Rd.int Tryz.underlying5))).arg_slice hsz (j := 1) (t := 31) rfl rfl hU h1
  clear hA0 hval0 hsz0 hsz
  obtain ⟨k, hk⟩ := Pure.ManifestFrames 1048576 x0 x1 (by decide) G0 G1
  refine (l33_ManifestFrames.calls k _ _ _ _ _ _ true W C0 c0 C1 c1 hk).mono ?_
  rintro e W' ⟨rfl, hd⟩
  have bel : Below W.heap.size W W' := hd
  exact ⟨_, rfl, _, _, _, [], _, [], hW', trodAll_mk1 (shut_bool Tryz.underlying4 _), (trodAll_cons_mk (Below.trod laidOut (by kernel_rfl) (of_decide_eq_true (by kernel_rfl)) k0 bel lt0) (trodAll_cons_mk (Below.trod laidOut (by kernel_rfl) (of_decide_eq_true (by kernel_rfl)) k1 bel lt1) trodAll_mk0)), rfl, bel.frame _, fun h => by cases h⟩
theorem over : Rows.manifestFramesUptoRow.holds Tryz.pinned (Rows.OpenSpec.upto Rows.manifestFramesSpec) :=
  OpenClaim.holds_of_cond 5 Tryz.f5 rfl rfl rfl rfl rfl rfl rfl ⟨rfl, rfl, rfl, rfl, rfl⟩ rfl rfl rfl rfl rfl (by kernel_rfl) Tryz.func5 (by kernel_rfl)
    (of_decide_eq_true (by kernel_rfl)) (by unfold Func.isWrapper; first | (rw [if_pos (by decide +kernel)]; kernel_rfl) | (rw [if_neg (by decide +kernel)]; exact ⟨rfl, rfl⟩))
    (fun os started H enc _ F => lifted os started H enc F)
/-- No parameter wants a stand-in; the program's own looks are off. -/
theorem plain (f : FuncId) (fn : Func) (hf : Tryz.pinned.checked.prog.funcNamed "codesearch/codesearchlaw33.ManifestFrames" = some f) (hfn : Tryz.pinned.checked.prog.funcs[f]? = some fn) :
    false = Tryz.pinned.checked.prog.looks [] ∧ ∀ (j : Nat) t, fn.params[j]? = some t → Tryz.pinned.checked.prog.wantsStandIn t = false := by
  obtain rfl : f = 5 := Option.some.inj ((show Tryz.prog.funcNamed "codesearch/codesearchlaw33.ManifestFrames" = some 5 by kernel_rfl).symm.trans hf) |>.symm
  obtain rfl : fn = Tryz.f5 := (Option.some.inj (Tryz.func5.symm.trans hfn)).symm
  refine ⟨by kernel_rfl, fun j t ht => ?_⟩
  rw [Tryz.params5] at ht
  have hm : t ∈ [22, 31] := by simpa using Array.mem_of_getElem? ht
  have hall : ([22, 31].all fun u => !Tryz.prog.wantsStandIn u) = true := by kernel_rfl
  exact (show Tryz.prog.wantsStandIn t = false by simpa using List.all_eq_true.1 hall t hm)
theorem proved : Rows.ManifestFramesUptoCardSaid :=
  Claim7.holds_tied_plain_at .later [] _ _ _ _ over (fun _ h => by cases h) (by kernel_rfl) (fun _ h => by cases h) manifestFramesUpto_row_tie rfl ⟨rfl, rfl⟩ (by kernel_rfl) rfl plain (by kernel_rfl)
#print axioms proved
end Go.Proofs.YtmgliocboeifdaaGreatDoor.manifestFrames
namespace Go.Proofs.YtmgliocboeifdaaGreatDoor
/-- The row, under a short name, for the claim. -/
theorem manifestFrames_holds : Rows.ManifestFramesUptoCardSaid := manifestFrames.proved
end Go.Proofs.YtmgliocboeifdaaGreatDoor
