/- ManifestBack, over lists alone. -/
import Derived.Test.YtmgliocboeifdaaDoorStManifestBack
import Derived.Test.YtmgliocboeifdaaDoorKQ33
namespace Go.Proofs.YtmgliocboeifdaaDoor.Pure
open Go.RowKit Go.Proofs.YtmgliocboeifdaaDoorW.PrintWords Go.Proofs.YtmgliocboeifdaaDoorW.PrintLast Go.Proofs.YtmgliocboeifdaaDoorW.PrintMore Go.Proofs.YtmgliocboeifdaaDoor.K Go.Proofs.YtmgliocboeifdaaDoor.Q
set_option linter.unusedVariables false
set_option linter.unusedSimpArgs false
theorem stop1 (e : SE) : Ev (fun k => l33_ManifestBack.j1 k true e.f0 e.f1 e.f2 e.f3 e.f4 e.f5) true := Ev.step (f := fun _ => some true) (fun k => by rw [l33_ManifestBack.j1, if_pos rfl]) (Ev.now _)
theorem go0 (e : SE) (h0 : -9223372036854775808 ≤ e.f0 ∧ e.f0 ≤ 9223372036854775807) (h1 : e.f1 ≤ 9223372036854775807) (h2 : e.f2 ≤ 9223372036854775807) (w3 : ∀ x ∈ e.f3, -9223372036854775808 ≤ x ∧ x ≤ 9223372036854775807) (w4 : ∀ x ∈ e.f4, -9223372036854775808 ≤ x ∧ x ≤ 9223372036854775807) (w5 : ∀ s ∈ e.f5, s.size ≤ 1048576) :
    Ev (fun k => l33_ManifestBack.j0 k false e.f0 e.f1 e.f2 e.f3 e.f4 e.f5) true := by
  refine Ev.step (fun k => by rw [l33_ManifestBack.j0, if_neg (by decide)]) ?_
  by_cases c3 : (e.f3.length : Int) > 1000
  · exact Ev.ite_pos c3 (stop1 e)
  refine Ev.ite_neg c3 ?_
  by_cases c4 : (e.f4.length : Int) > 1000
  · exact Ev.ite_pos c4 (stop1 e)
  refine Ev.ite_neg c4 ?_
  by_cases c5 : (e.f5.length : Int) > 1000
  · exact Ev.ite_pos c5 (stop1 e)
  refine Ev.ite_neg c5 ?_
  by_cases c6 : e.f0 < 0
  · exact Ev.ite_pos c6 (stop1 e)
  refine Ev.ite_neg c6 ?_
  by_cases c7 : e.f0 > 4611686018427387904
  · exact Ev.ite_pos c7 (stop1 e)
  refine Ev.ite_neg c7 ?_
  have hs : (strsB e.f5).length ≤ 1000 * (1048576 + 10) := Nat.le_trans (strsB_bound 1048576 e.f5 w5) (Nat.mul_le_mul_right _ (by omega))
  have hk : okE e := ⟨w3, w4, by omega, h1, h2, by omega, by omega⟩
  have hk1 : okE (⟨1, e.f1, e.f2, e.f3, e.f4, e.f5⟩ : SE) := ⟨w3, w4, by dsimp only; omega, h1, h2, by dsimp only; omega, by dsimp only; omega⟩
  refine Ev.bind (plain_is [(⟨1, e.f1, e.f2, e.f3, e.f4, e.f5⟩ : SE)] (by simp) (fun x hx => by obtain rfl := List.mem_singleton.1 hx; dsimp only; omega)) ?_
  by_cases hp : plainB 0 [(⟨1, e.f1, e.f2, e.f3, e.f4, e.f5⟩ : SE)] = true
  · rw [hp]
    obtain ⟨_, ⟨_, p1, p2, p3, p4, p5, p6⟩, _, _⟩ := plainB_num _ 0 (by simp) hp (fun x hx => by obtain rfl := List.mem_singleton.1 hx; exact hk1)
    have hpe : plainE e := ⟨⟨by omega, by omega⟩, p1, p2, p3, p4, p5, p6⟩
    have hel := encM_len e
    refine Ev.step (fun k => by rw [l33_ManifestBack.j1, if_neg (by decide)]) (Ev.bind (Encode_is e hk) (Ev.bind (Decode_is (encM e) (by omega) (encM_bytes e hk)) ?_))
    rw [dec_enc e hpe hk]
    exact Ev.ite_pos rfl (Ev.bind (Same_self e (by omega) (by omega) (by omega)) (Ev.now _))
  · rw [show plainB 0 [(⟨1, e.f1, e.f2, e.f3, e.f4, e.f5⟩ : SE)] = false by simpa using hp]
    exact stop1 e
theorem ManifestBack : StManifestBack.Pure := by
  intro U e b hU hg hb
  obtain ⟨h0, h1, h2, ⟨_, _, l3, w3⟩, ⟨_, _, l4, w4⟩, ⟨_, _, l5, w5⟩⟩ := hg
  have hbu : ∀ x ∈ b, 0 ≤ x ∧ x < 256 := fun x hx => wf_u8.1 (hb.2.2.2 x hx)
  have hbl : b.length ≤ 1048576 := by have := hb.2.2.1; omega
  have rest := go0 e (wf_i64.1 h0) (wf_i64.1 h1).2 (wf_i64.1 h2).2 (fun x hx => wf_i64.1 (w3 x hx)) (fun x hx => wf_i64.1 (w4 x hx)) (fun s hs => by have := (w5 s hs).2; omega)
  refine Ev.rounds (Ev.congr (fun k => rfl) (Ev.bind alive33 (Ev.ite_pos rfl (Ev.bind (Decode_is b (by omega) hbu) ?_))))
  cases hd : decO b with
  | none => exact Ev.ite_neg (show ¬ (3 : Int) = 0 by decide) rest
  | some x =>
    obtain ⟨E, hk⟩ := enc_dec hbu (by omega) hd
    have he := Encode_is x hk
    rw [E] at he
    refine Ev.ite_pos rfl (Ev.bind he ?_)
    rw [bne_self_eq_false]
    exact rest
end Go.Proofs.YtmgliocboeifdaaDoor.Pure
