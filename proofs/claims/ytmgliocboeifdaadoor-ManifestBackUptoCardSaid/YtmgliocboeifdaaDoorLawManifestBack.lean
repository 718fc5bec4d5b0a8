/- ManifestBack: for every input the call returns true, and each argument reads afterwards as it read before. -/
import Derived.Test.YtmgliocboeifdaaDoorKQLaid
import Derived.Test.YtmgliocboeifdaaDoorCards
import Derived.Test.YtmgliocboeifdaaDoorTie
import Derived.Lay
import Derived.SevenTiedAt
import Derived.MakeChecks
import Derived.LaidLaws
import Derived.LaidOnce
import Derived.JoinedCond
import Derived.Deep.CondSized
import Derived.Test.YtmgliocboeifdaaDoorRows
import Derived.Test.YtmgliocboeifdaaDoorKx17
import Derived.Test.YtmgliocboeifdaaDoorStManifestBack
import Derived.Test.YtmgliocboeifdaaDoorPureManifestBack
import Derived.WalkKit
import Derived.ProofKit
import Derived.OpenShut
import Derived.ShutString
import Derived.ChangeOld
import Derived.Below
import Derived.SizedLaws
namespace Go.Proofs.YtmgliocboeifdaaDoor.manifestBack
open Go.ChangeShapes Go.WideShapes Go.ChangeAt Go.RowKit Go.Proofs.YtmgliocboeifdaaDoor.K Go.Proofs.YtmgliocboeifdaaDoor.Q Go.Proofs.YtmgliocboeifdaaDoor.StManifestBack Go.Proofs.YtmgliocboeifdaaDoorW.PrintWords Go.Proofs.YtmgliocboeifdaaDoorW.PrintLast
open Go.ChangeMaps (open_string shut_string)
set_option linter.unusedVariables false
theorem own : ownKnob Tryd.prog.godebug = none := by kernel_rfl
theorem laidOut : laidOutB Tryd.prog = true := by kernel_rfl
set_option maxRecDepth 100000 in
theorem lifted (os : Os) (started : os.Started) (H : Type) (enc : TypeId × Value → H) (F : Stop.Interp) :
    ReturnsInHanded {} Tryd.checked os 5 .any (fun w args => ((Rows.OpenSpec.upto Rows.manifestBackSpec).pre enc Tryd.prog Tryd.f5 [] false w args ∧ laidMetH Tryd.prog Rows.manifestBackUptoRow.laid w) ∧ sizedMet enc Tryd.prog Tryd.f5 (Rows.OpenSpec.upto Rows.manifestBackSpec) false w args) (((Rows.OpenSpec.upto Rows.manifestBackSpec).at F).post enc Tryd.prog Tryd.f5 false true false false) := by
  refine QLaid.returns_of_cond_laid (C := Tryd.checked) (s := (Rows.OpenSpec.upto Rows.manifestBackSpec)) (k := Rows.uptoSmall) (X := fun w _ => laidMetH Tryd.prog Rows.manifestBackUptoRow.laid w) rfl (fun _ _ _ hh h => h.of_heap hh) own started (by kernel_rfl) Tryd.func5
    (QLaid.witness_cond_laid (enc := enc) (C := Tryd.checked) (os := os) (s := (Rows.OpenSpec.upto Rows.manifestBackSpec)) (k := Rows.uptoSmall) (X := fun w _ => laidMetH Tryd.prog Rows.manifestBackUptoRow.laid w) rfl false (World.laidAll Tryd.prog os Rows.manifestBackUptoRow.laid) #[.agg #[.int .i64 0, .int .i64 0, .int .i64 0, .slice none 0 0, .slice none 0 0, .slice none 0 0], .slice none 0 0] 8 (World.laidAll_os _ _ _)
      (World.shaped_of_ZipB (by kernel_rfl) (by kernel_rfl)) (by kernel_rfl) (x := ([.agg [.lit (.int .i64 0), .lit (.int .i64 0), .lit (.int .i64 0), .nil, .nil, .nil], .nil], [], [])) (by kernel_rfl) rfl (by kernel_rfl) (by kernel_rfl)
      (by rw [MakeChecks.laidMetH_plain _ _ _ (by kernel_rfl)]; exact laidMet_laidAll _ (by kernel_rfl) (by kernel_rfl))) ?_
  intro W base args ds gs before hval0 hW _ hkU hsz0 hL _
  have hU : Rows.uptoBulkAll (ds ++ gs) ≤ 1048576 := bound hkU
  have hsz : (DataW.weightsEach Tryd.prog (Tryd.f5.params.toList ++ Rows.manifestBackSpec.plain.varTypes Tryd.prog) (ds ++ gs)).all (· ≤ reachBytes) = true := hsz0
  have hval : ∀ (j : Nat) t v, Tryd.f5.params[j]? = some t → args[j]? = some v → Value.okWide Tryd.prog W .any base t v := hval0
  have hW' := hW
  obtain ⟨p, q, hA0, hV, rfl, hfz, hnd⟩ := hW
  have hA : DataW.TrodAll enc Tryd.prog W 0 (fun _ => true) true Tryd.f5.params.toList args.toList ds p := hA0
  rw [Tryd.params5] at hA hval hsz
  obtain ⟨v0, vs0, d0, ds0, p0, q0, hargs, rfl, rfl, h0, r0⟩ := trodAll_cons hA
  obtain ⟨v1, vs1, d1, ds1, p1, q1, rfl, rfl, rfl, h1, r1⟩ := trodAll_cons r0
  obtain ⟨rfl, rfl, rfl⟩ := trodAll_nil r1
  obtain rfl : args = #[v0, v1] := by cases args; simp_all
  obtain ⟨rfl, rfl⟩ := trodVars_none hV
  have k0 := h0
  have lt0 : ∀ x ∈ p0, x.block < W.heap.size := by obtain ⟨m, hm⟩ := k0; exact DataW.trod_lt m _ _ _ hm
  obtain ⟨x0, K0, G0⟩ := (show Rd Tryd.prog k37 37 g37 from rd37).arg hsz (j := 0) (t := 37) rfl rfl hU h0
  obtain ⟨cs0, rfl, _⟩ := okWide_struct Tryd.underlying37 (hval 0 37 v0 rfl rfl)
  replace K0 : k37.K W x0 cs0.toList := K0
  obtain ⟨A0_3, c0_3, A0_4, c0_4, A0_5, c0_5, e0, l0_3, C0_3, l0_4, C0_4, l0_5, C0_5⟩ := k37_open K0
  obtain rfl : cs0 = #[.int .i64 x0.f0, .int .i64 x0.f1, .int .i64 x0.f2, .slice A0_3 x0.f3.length c0_3, .slice A0_4 x0.f4.length c0_4, .slice A0_5 x0.f5.length c0_5] := by cases cs0; simp_all
  have k1 := h1
  have lt1 : ∀ x ∈ p1, x.block < W.heap.size := by obtain ⟨m, hm⟩ := k1; exact DataW.trod_lt m _ _ _ hm
  obtain ⟨a1, len1, cap1, rfl⟩ := okWide_slice Tryd.underlying29 (hval 1 29 v1 rfl rfl)
  obtain ⟨x1, rfl, c1, C1, G1⟩ := (show Rd Tryd.prog (Kd.slice 5 (Kd.int .u8)) 29 _ from (Rd.slice (B := 1) Tryd.underlying29 (by kernel_rfl) (by kernel_rfl) (Rd.int Tryd.underlying5))).arg_slice hsz (j := 1) (t := 29) rfl rfl hU h1
  clear hA0 hval0 hsz0 hsz
  obtain ⟨k, hk⟩ := Pure.ManifestBack 1048576 x0 x1 (by decide) G0 G1
  refine (l33_ManifestBack.calls k _ _ _ (fun k_ => k_ < W.heap.size) _ _ _ (fun k_ => k_ < W.heap.size) _ _ _ (fun k_ => k_ < W.heap.size) _ _ _ _ _ _ true W ⟨A0_3, c0_3, rfl, l0_3, Kd.C_F (Kd.heap_int .i64) C0_3⟩ ⟨A0_4, c0_4, rfl, l0_4, Kd.C_F (Kd.heap_int .i64) C0_4⟩ ⟨A0_5, c0_5, rfl, l0_5, Kd.C_F Kd.heap_string C0_5⟩ C1 c1 hk).mono ?_
  rintro e W' ⟨rfl, hd⟩
  have bel : Below W.heap.size W W' := hd
  exact ⟨_, rfl, _, _, _, [], _, [], hW', trodAll_mk1 (shut_bool Tryd.underlying4 _), (trodAll_cons_mk (Below.trod laidOut (by kernel_rfl) (of_decide_eq_true (by kernel_rfl)) k0 bel lt0) (trodAll_cons_mk (Below.trod laidOut (by kernel_rfl) (of_decide_eq_true (by kernel_rfl)) k1 bel lt1) trodAll_mk0)), rfl, bel.frame _, fun h => by cases h⟩
theorem over : Rows.manifestBackUptoRow.holds Tryd.pinned (Rows.OpenSpec.upto Rows.manifestBackSpec) :=
  OpenClaim.holds_of_cond 5 Tryd.f5 rfl rfl rfl rfl rfl rfl rfl ⟨rfl, rfl, rfl, rfl, rfl⟩ rfl rfl rfl rfl rfl (by kernel_rfl) Tryd.func5 (by kernel_rfl)
    (of_decide_eq_true (by kernel_rfl)) (by unfold Func.isWrapper; first | (rw [if_pos (by decide +kernel)]; kernel_rfl) | (rw [if_neg (by decide +kernel)]; exact ⟨rfl, rfl⟩))
    (fun os started H enc _ F => lifted os started H enc F)
/-- No parameter wants a stand-in; the program's own looks are off. -/
theorem plain (f : FuncId) (fn : Func) (hf : Tryd.pinned.checked.prog.funcNamed "codesearch/codesearchlaw33.ManifestBack" = some f) (hfn : Tryd.pinned.checked.prog.funcs[f]? = some fn) :
    false = Tryd.pinned.checked.prog.looks [] ∧ ∀ (j : Nat) t, fn.params[j]? = some t → Tryd.pinned.checked.prog.wantsStandIn t = false := by
  obtain rfl : f = 5 := Option.some.inj ((show Tryd.prog.funcNamed "codesearch/codesearchlaw33.ManifestBack" = some 5 by kernel_rfl).symm.trans hf) |>.symm
  obtain rfl : fn = Tryd.f5 := (Option.some.inj (Tryd.func5.symm.trans hfn)).symm
  refine ⟨by kernel_rfl, fun j t ht => ?_⟩
  rw [Tryd.params5] at ht
  have hm : t ∈ [37, 29] := by simpa using Array.mem_of_getElem? ht
  have hall : ([37, 29].all fun u => !Tryd.prog.wantsStandIn u) = true := by kernel_rfl
  exact (show Tryd.prog.wantsStandIn t = false by simpa using List.all_eq_true.1 hall t hm)
theorem proved : Rows.ManifestBackUptoCardSaid :=
  Claim7.holds_tied_plain_at .later [] _ _ _ _ over (fun _ h => by cases h) (by kernel_rfl) (fun _ h => by cases h) manifestBackUpto_row_tie rfl ⟨rfl, rfl⟩ (by kernel_rfl) rfl plain (by kernel_rfl)
#print axioms proved
end Go.Proofs.YtmgliocboeifdaaDoor.manifestBack
namespace Go.Proofs.YtmgliocboeifdaaDoor
/-- The row, under a short name, for the claim. -/
theorem manifestBack_holds : Rows.ManifestBackUptoCardSaid := manifestBack.proved
end Go.Proofs.YtmgliocboeifdaaDoor
