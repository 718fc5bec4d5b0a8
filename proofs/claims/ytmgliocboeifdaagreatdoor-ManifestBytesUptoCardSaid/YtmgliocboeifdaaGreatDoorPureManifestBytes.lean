/- ManifestBytes, over lists alone. -/
import Derived.Test.YtmgliocboeifdaaGreatDoorStManifestBytes
import Derived.Test.YtmgliocboeifdaaGreatDoorFQ33B
namespace Go.Proofs.YtmgliocboeifdaaGreatDoor.Pure
open Go.RowKit Go.Proofs.YtmgliocboeifdaaGreatDoorW.PrintWords Go.Proofs.YtmgliocboeifdaaGreatDoorW.PrintLast Go.Proofs.YtmgliocboeifdaaGreatDoorW.PrintMore Go.Proofs.YtmgliocboeifdaaGreatDoor.F Go.Proofs.YtmgliocboeifdaaGreatDoor.Q
set_option linter.unusedVariables false
set_option linter.unusedSimpArgs false
theorem ManifestBytes : StManifestBytes.Pure := by
  intro U e b hU hg hb
  obtain ⟨h0, h1, h2, ⟨_, _, l3, w3⟩, ⟨_, _, l4, w4⟩, ⟨_, _, l5, w5⟩⟩ := hg
  have hbu : ∀ x ∈ b, 0 ≤ x ∧ x < 256 := fun x hx => wf_u8.1 (hb.2.2.2 x hx)
  have hbl : b.length ≤ 1048576 := by have := hb.2.2.1; omega
  have stop : Ev (fun k => l33_ManifestBytes.j0 k b true e.f0 e.f1 e.f2 e.f3 e.f4 e.f5) true := Ev.step (f := fun _ => some true) (fun k => by rw [l33_ManifestBytes.j0, if_pos rfl]) (Ev.now _)
  refine Ev.rounds (Ev.congr (fun k => rfl) (Ev.bind alive33 (Ev.ite_pos rfl ?_)))
  by_cases c3 : (e.f3.length : Int) > 1000
  · exact Ev.ite_pos c3 stop
  refine Ev.ite_neg c3 ?_
  by_cases c4 : (e.f4.length : Int) > 1000
  · exact Ev.ite_pos c4 stop
  refine Ev.ite_neg c4 ?_
  by_cases c5 : (e.f5.length : Int) > 1000
  · rw [decide_eq_true c5]; exact stop
  rw [decide_eq_false c5]
  have hk : okE e := by
    have h := strsB_bound 1048576 e.f5 (fun s hs => by have := (w5 s hs).2; omega)
    have h' : e.f5.length * (1048576 + 10) ≤ 1000 * (1048576 + 10) := Nat.mul_le_mul_right _ (by omega)
    exact ⟨fun x hx => wf_i64.1 (w3 x hx), fun x hx => wf_i64.1 (w4 x hx), (wf_i64.1 h0).2, (wf_i64.1 h1).2, (wf_i64.1 h2).2, by omega, by omega⟩
  refine Ev.step (fun k => by rw [l33_ManifestBytes.j0, if_neg (by decide)]) (Ev.bind (Decode_is b (by omega) hbu) (Ev.bind (rDecode_is b (by omega) hbu) (Ev.bind (Encode_is e hk) (Ev.bind (rEncode_is e hk) (Ev.ite_pos rfl (Ev.ite_pos rfl ?_))))))
  cases hd : decO b with
  | none => exact Ev.bind (Same_self ⟨0, 0, 0, [], [], []⟩ (by simp) (by simp) (by simp)) (Ev.now _)
  | some x =>
    obtain ⟨n3, n4, n5⟩ := decO_len hd
    exact Ev.bind (Same_self x (by omega) (by omega) (by omega)) (Ev.now _)
end Go.Proofs.YtmgliocboeifdaaGreatDoor.Pure
