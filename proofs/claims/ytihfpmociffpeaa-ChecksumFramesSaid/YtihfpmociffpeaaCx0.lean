-- Written by hp.py, a program of this session, over the kit's print of the translation. Not trusted: Lean checks it.
import Derived.Test.YtihfpmociffpeaaProg
import Derived.Below
import Derived.Deep.Draws
import Derived.Deep.AppendLies
import Derived.Maps.AppendAt
import Derived.OwnWalk
import Derived.Laws.BytesArg
import Derived.Laws.MakeOwn
import Derived.Laws.OwnMore
import Derived.Deep.OwnRows
import Derived.Tactics
import Derived.Lib.ConvBytes
import Derived.Laws.Slices
import Derived.WalkKit
import Derived.KernelRfl
import Derived.RowKit3
import Derived.Deep.LoopGhost
import Derived.Deep.QuietTactic
import Derived.BigQuiet
import Derived.WideLaws
import Derived.Deep.DeepCutAuto
import Derived.Deep.CutBlock
import Derived.Deep.RegionHeld3
import Derived.Laws.Rows
import Derived.Lib.AppendStr
import Derived.ArgAppend
import Derived.Laws.IdiomCopy
import Derived.OrdersHeld
import Derived.Laws.BitsLemmas
import Derived.RowKit
import Derived.Laws.Cover3
import Derived.Test.YtihfpmociffpeaaWWords
import Derived.Test.YtihfpmociffpeaaWLast
import Derived.Test.YtihfpmociffpeaaWTab
import Derived.Test.YtihfpmociffpeaaWFour
import Derived.Test.YtihfpmociffpeaaWQPut
import Derived.Test.YtihfpmociffpeaaWApart
import Derived.Test.YtihfpmociffpeaaWArr
import Derived.Test.YtihfpmociffpeaaWZeros
import Derived.Test.YtihfpmociffpeaaWFoot
import Derived.Test.YtihfpmociffpeaaWKept
import Derived.Test.YtihfpmociffpeaaWShare
import Derived.Test.YtihfpmociffpeaaWN
import Derived.Test.YtihfpmociffpeaaWFootNe
import Derived.Test.YtihfpmociffpeaaWAt
import Derived.Test.YtihfpmociffpeaaWEqStruct
import Derived.Test.YtihfpmociffpeaaWRepsOne
import Derived.Test.YtihfpmociffpeaaWInv
import Derived.Test.YtihfpmociffpeaaWInvWords
import Derived.Test.YtihfpmociffpeaaWGuard
import Derived.Test.YtihfpmociffpeaaWNEv
import Derived.Test.YtihfpmociffpeaaWMore
namespace Go.Proofs.Ytihfpmociffpeaa.C
open Go.RowKit Go.Proofs.YtihfpmociffpeaaW.PrintWords Go.Proofs.YtihfpmociffpeaaW.PrintLast Go.Proofs.YtihfpmociffpeaaW.PrintMore
attribute [local go_sem] max2_int min2_int max_two min_two max_three min_three max_four min_four   -- for this text's walks alone
set_option linter.unusedVariables false
set_option linter.unusedSimpArgs false

@[go_sem] theorem u8_max_ : IntKind.u8.max = 255 := rfl
@[go_sem] theorem u32_max_ : IntKind.u32.max = 4294967295 := rfl
@[go_sem] theorem u64_max_ : IntKind.u64.max = 18446744073709551615 := rfl
@[go_sem] theorem u8_signed_ : IntKind.u8.signed = false := rfl
@[go_sem] theorem u32_signed_ : IntKind.u32.signed = false := rfl
@[go_sem] theorem u64_signed_ : IntKind.u64.signed = false := rfl
@[go_sem] theorem run_eql_slice_nil_ {P : Program} (w : World) (t e : TypeId) (a : Option Addr) (l c : Nat) (h : P.underlying t = some (.slice e)) : (binOp .eql t (.slice a l c) (.slice none 0 0)).run P w = .ok (.bool a.isNone) w := by
  simp only [binOp]
  simp [run_equal_slice_nil w t e a l c h]
/-! ### The conversion of a literal's row to its own type: '[]byte("..")' -/
section
variable {P : Program} {ops : Array Oper} {rest : List Oper} {o : Oper} {a : Act} {Q : Exit → Act → World → Prop} {W : World}
theorem conv_own_ {N : Tmp} (hgd : o.guard = none) (_hd : o.dst = some N) {t e x : Nat} (ho : o.op = .convert t t (.tmp x)) {A : Option Addr} {c : Nat} {xs : List Int} (hx : a.eval (.tmp x) = .slice A xs.length c)
    (ht : P.underlying t = some (.slice e)) (he : P.underlying e = some (.int .u8)) {w0 : World} {base : Nat} {ok : Nat → Prop} (hR : Kd.R (Kd.int .u8) e W base ok (.slice A xs.length c) xs) (hne : 0 < xs.length) (HB : Below base w0 W)
    (h : ∀ w1, Kd.C (Kd.int .u8) w1 A xs.length xs → xs.length ≤ c → Below base w0 w1 → wpList P ops Q rest (a.put o.dst (.slice A xs.length c)) w1) : wpList P ops Q (o :: rest) a W := by
  obtain ⟨hn, hlc, hC⟩ := Kd.R_reads' hR
  obtain ⟨_, inner, how, hrep⟩ := hR
  rcases how.2 with ⟨h1, h2⟩ | ⟨g, cap, cur, hv, hg, hb, _, _, _, _⟩
  · omega
  · injection hv with e1 e2 e3
    subst e1
    have hsh : W.shape? g = some (e, cur.size) := by unfold World.shape?; rw [hb]
    obtain ⟨f, hfr, hf⟩ : ∃ f : Obj → Obj, W.freeze ⟨g, cur.size, none⟩ 1 = { W with heap := W.heap.modify g f } ∧ ∀ c t q, ∃ q', f (.cells c t q) = .cells c t q' := by
      refine ⟨fun ob => match ob with | .cells c elem fz => .cells c elem (if fz.1 == fz.2 then (cur.size, cur.size + 1) else (min fz.1 cur.size, max fz.2 (cur.size + 1))) | o => o, ?_, fun c t q => ⟨_, rfl⟩⟩
      unfold World.freeze
      rw [if_neg (by decide)]
      congr 2
      funext ob
      rcases ob with ⟨c, t, q⟩ | _ <;> rfl
    have hcell : ∀ ad : Addr, (W.freeze ⟨g, cur.size, none⟩ 1).cell? ad = W.cell? ad := by
      intro ad
      rw [hfr]
      unfold World.cell?
      simp only [Array.getElem?_modify]
      by_cases hk : g = ad.block
      · subst hk
        obtain ⟨q', hq⟩ := hf cur e (0, 0)
        rw [if_pos rfl, hb, Option.map_some, hq]
      · rw [if_neg hk]
    have hrun : (execOp a.eval o).run P W = .ok (.value (.slice (some ⟨g, 0, none⟩) xs.length c)) (W.freeze ⟨g, cur.size, none⟩ 1) := by
      unfold execOp
      rw [ho]
      simp [hx, convert, run_underlying ht, run_underlying he, markStringish, hsh]
    refine Kd.event_run hgd hrun (h _ ⟨hC.1, hC.2.1, fun hp => ?_⟩ hlc ⟨?_, ?_, ?_, ?_, fun k hk => ?_⟩)
    · obtain ⟨ad, e', f⟩ := hC.2.2 hp
      refine ⟨ad, e', fun j p hj => ?_⟩
      obtain ⟨c', h1, h2, h3⟩ := f j p hj
      exact ⟨c', h1, h2, fun i u hu => by rw [hcell]; exact h3 i u hu⟩
    · rw [hfr]; exact HB.os
    · rw [hfr]; exact HB.tape
    · rw [hfr]; exact HB.output
    · rw [hfr]; simpa using HB.size
    · rw [hfr, ← HB.block k hk]
      simp only [Array.getElem?_modify]
      rw [if_neg (by omega)]
end



def errW : Option Int → Value
  | none => .nilIface
  | some c => .iface 0 (.int .i64 c)
theorem errW_none : errW none = .nilIface := rfl
theorem errW_some (c : Int) : errW (some c) = .iface 0 (.int .i64 c) := rfl

theorem info5 : (Try.prog.info? 5).map (fun i => (i.zero, i.size, i.bytes)) = some (some (.int .u8 0), 1, 1) := by kernel_rfl
-- the values' own types

end Go.Proofs.Ytihfpmociffpeaa.C
