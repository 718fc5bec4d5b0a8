/- ManifestTorn: for every input the call returns true, and each argument reads afterwards as it read before. -/
import Derived.Test.YtmgliocboeifdaaDoorTQLaid
import Derived.Test.YtmgliocboeifdaaDoorCards
import Derived.Test.YtmgliocboeifdaaDoorTie
import Derived.Lay
import Derived.SevenTiedAt
import Derived.MakeChecks
import Derived.LaidLaws
import Derived.LaidOnce
import Derived.JoinedCond
import Derived.Deep.CondSized
import Derived.Test.YtmgliocboeifdaaDoorRows
import Derived.Test.YtmgliocboeifdaaDoorTx18
import Derived.Test.YtmgliocboeifdaaDoorStManifestTorn
import Derived.Test.YtmgliocboeifdaaDoorPureManifestTorn
import Derived.WalkKit
import Derived.ProofKit
import Derived.OpenShut
import Derived.ShutString
import Derived.ChangeOld
import Derived.Below
import Derived.SizedLaws
namespace Go.Proofs.YtmgliocboeifdaaDoor.manifestTorn
open Go.ChangeShapes Go.WideShapes Go.ChangeAt Go.RowKit Go.Proofs.YtmgliocboeifdaaDoor.T Go.Proofs.YtmgliocboeifdaaDoor.Q Go.Proofs.YtmgliocboeifdaaDoor.StManifestTorn Go.Proofs.YtmgliocboeifdaaDoorW.PrintWords Go.Proofs.YtmgliocboeifdaaDoorW.PrintLast
open Go.ChangeMaps (open_string shut_string)
set_option linter.unusedVariables false
theorem own : ownKnob Tryd.prog.godebug = none := by kernel_rfl
theorem laidOut : laidOutB Tryd.prog = true := by kernel_rfl
set_option maxRecDepth 100000 in
theorem lifted (os : Os) (started : os.Started) (H : Type) (enc : TypeId × Value → H) (F : Stop.Interp) :
    ReturnsInHanded {} Tryd.checked os 4 .any (fun w args => ((Rows.OpenSpec.upto Rows.manifestTornSpec).pre enc Tryd.prog Tryd.f4 [] false w args ∧ laidMetH Tryd.prog Rows.manifestTornUptoRow.laid w) ∧ sizedMet enc Tryd.prog Tryd.f4 (Rows.OpenSpec.upto Rows.manifestTornSpec) false w args) (((Rows.OpenSpec.upto Rows.manifestTornSpec).at F).post enc Tryd.prog Tryd.f4 false true false false) := by
  refine QLaid.returns_of_cond_laid (C := Tryd.checked) (s := (Rows.OpenSpec.upto Rows.manifestTornSpec)) (k := Rows.uptoSmall) (X := fun w _ => laidMetH Tryd.prog Rows.manifestTornUptoRow.laid w) rfl (fun _ _ _ hh h => h.of_heap hh) own started (by kernel_rfl) Tryd.func4
    (QLaid.witness_cond_laid (enc := enc) (C := Tryd.checked) (os := os) (s := (Rows.OpenSpec.upto Rows.manifestTornSpec)) (k := Rows.uptoSmall) (X := fun w _ => laidMetH Tryd.prog Rows.manifestTornUptoRow.laid w) rfl false (World.laidAll Tryd.prog os Rows.manifestTornUptoRow.laid) #[.slice none 0 0, .int .u16 0, .slice none 0 0] 8 (World.laidAll_os _ _ _)
      (World.shaped_of_ZipB (by kernel_rfl) (by kernel_rfl)) (by kernel_rfl) (x := ([.nil, .lit (.int .u16 0), .nil], [], [])) (by kernel_rfl) rfl (by kernel_rfl) (by kernel_rfl)
      (by rw [MakeChecks.laidMetH_plain _ _ _ (by kernel_rfl)]; exact laidMet_laidAll _ (by kernel_rfl) (by kernel_rfl))) ?_
  intro W base args ds gs before hval0 hW _ hkU hsz0 hL _
  have hU : Rows.uptoBulkAll (ds ++ gs) ≤ 1048576 := bound hkU
  have hsz : (DataW.weightsEach Tryd.prog (Tryd.f4.params.toList ++ Rows.manifestTornSpec.plain.varTypes Tryd.prog) (ds ++ gs)).all (· ≤ reachBytes) = true := hsz0
  have hval : ∀ (j : Nat) t v, Tryd.f4.params[j]? = some t → args[j]? = some v → Value.okWide Tryd.prog W .any base t v := hval0
  have hW' := hW
  obtain ⟨p, q, hA0, hV, rfl, hfz, hnd⟩ := hW
  have hA : DataW.TrodAll enc Tryd.prog W 0 (fun _ => true) true Tryd.f4.params.toList args.toList ds p := hA0
  rw [Tryd.params4] at hA hval hsz
  obtain ⟨v0, vs0, d0, ds0, p0, q0, hargs, rfl, rfl, h0, r0⟩ := trodAll_cons hA
  obtain ⟨v1, vs1, d1, ds1, p1, q1, rfl, rfl, rfl, h1, r1⟩ := trodAll_cons r0
  obtain ⟨v2, vs2, d2, ds2, p2, q2, rfl, rfl, rfl, h2, r2⟩ := trodAll_cons r1
  obtain ⟨rfl, rfl, rfl⟩ := trodAll_nil r2
  obtain rfl : args = #[v0, v1, v2] := by cases args; simp_all
  obtain ⟨rfl, rfl⟩ := trodVars_none hV
  have k0 := h0
  have lt0 : ∀ x ∈ p0, x.block < W.heap.size := by obtain ⟨m, hm⟩ := k0; exact DataW.trod_lt m _ _ _ hm
  obtain ⟨a0, len0, cap0, rfl⟩ := okWide_slice Tryd.underlying22 (hval 0 22 v0 rfl rfl)
  obtain ⟨x0, rfl, c0, C0, G0⟩ := (show Rd Tryd.prog (Kd.slice 37 k37) 22 _ from (Rd.slice (B := 96) Tryd.underlying22 (by kernel_rfl) (by kernel_rfl) rd37)).arg_slice hsz (j := 0) (t := 22) rfl rfl hU h0
  obtain ⟨a1, rfl, rfl, rfl, w1⟩ := open_int Tryd.underlying28 (hval 1 28 v1 rfl rfl) h1
  have k2 := h2
  have lt2 : ∀ x ∈ p2, x.block < W.heap.size := by obtain ⟨m, hm⟩ := k2; exact DataW.trod_lt m _ _ _ hm
  obtain ⟨a2, len2, cap2, rfl⟩ := okWide_slice Tryd.underlying29 (hval 2 29 v2 rfl rfl)
  obtain ⟨x2, rfl, c2, C2, G2⟩ := (show Rd Tryd.prog (Kd.slice 5 (Kd.int .u8)) 29 _ from (Rd.slice (B := 1) Tryd.underlying29 (by kernel_rfl) (by kernel_rfl) (Rd.int Tryd.underlying5))).arg_slice hsz (j := 2) (t := 29) rfl rfl hU h2
  clear hA0 hval0 hsz0 hsz
  obtain ⟨k, hk⟩ := Pure.ManifestTorn 1048576 x0 a1 x2 (by decide) G0 w1 G2
  refine (codesearchlaw33_ManifestTorn.calls k _ _ _ _ _ _ _ true W C0 c0 C2 c2 hk).mono ?_
  rintro e W' ⟨rfl, hd⟩
  have bel : Below W.heap.size W W' := hd
  exact ⟨_, rfl, _, _, _, [], _, [], hW', trodAll_mk1 (shut_bool Tryd.underlying4 _), (trodAll_cons_mk (Below.trod laidOut (by kernel_rfl) (of_decide_eq_true (by kernel_rfl)) k0 bel lt0) (trodAll_cons_mk (shut_int Tryd.underlying28 w1) (trodAll_cons_mk (Below.trod laidOut (by kernel_rfl) (of_decide_eq_true (by kernel_rfl)) k2 bel lt2) trodAll_mk0))), rfl, bel.frame _, fun h => by cases h⟩
theorem over : Rows.manifestTornUptoRow.holds Tryd.pinned (Rows.OpenSpec.upto Rows.manifestTornSpec) :=
  OpenClaim.holds_of_cond 4 Tryd.f4 rfl rfl rfl rfl rfl rfl rfl ⟨rfl, rfl, rfl, rfl, rfl⟩ rfl rfl rfl rfl rfl (by kernel_rfl) Tryd.func4 (by kernel_rfl)
    (of_decide_eq_true (by kernel_rfl)) (by unfold Func.isWrapper; first | (rw [if_pos (by decide +kernel)]; kernel_rfl) | (rw [if_neg (by decide +kernel)]; exact ⟨rfl, rfl⟩))
    (fun os started H enc _ F => lifted os started H enc F)
/-- No parameter wants a stand-in; the program's own looks are off. -/
theorem plain (f : FuncId) (fn : Func) (hf : Tryd.pinned.checked.prog.funcNamed "codesearch/codesearchlaw33.ManifestTorn" = some f) (hfn : Tryd.pinned.checked.prog.funcs[f]? = some fn) :
    false = Tryd.pinned.checked.prog.looks [] ∧ ∀ (j : Nat) t, fn.params[j]? = some t → Tryd.pinned.checked.prog.wantsStandIn t = false := by
  obtain rfl : f = 4 := Option.some.inj ((show Tryd.prog.funcNamed "codesearch/codesearchlaw33.ManifestTorn" = some 4 by kernel_rfl).symm.trans hf) |>.symm
  obtain rfl : fn = Tryd.f4 := (Option.some.inj (Tryd.func4.symm.trans hfn)).symm
  refine ⟨by kernel_rfl, fun j t ht => ?_⟩
  rw [Tryd.params4] at ht
  have hm : t ∈ [22, 28, 29] := by simpa using Array.mem_of_getElem? ht
  have hall : ([22, 28, 29].all fun u => !Tryd.prog.wantsStandIn u) = true := by kernel_rfl
  exact (show Tryd.prog.wantsStandIn t = false by simpa using List.all_eq_true.1 hall t hm)
theorem proved : Rows.ManifestTornUptoCardSaid :=
  Claim7.holds_tied_plain_at .later [] _ _ _ _ over (fun _ h => by cases h) (by kernel_rfl) (fun _ h => by cases h) manifestTornUpto_row_tie rfl ⟨rfl, rfl⟩ (by kernel_rfl) rfl plain (by kernel_rfl)
#print axioms proved
end Go.Proofs.YtmgliocboeifdaaDoor.manifestTorn
namespace Go.Proofs.YtmgliocboeifdaaDoor
/-- The row, under a short name, for the claim. -/
theorem manifestTorn_holds : Rows.ManifestTornUptoCardSaid := manifestTorn.proved
end Go.Proofs.YtmgliocboeifdaaDoor
