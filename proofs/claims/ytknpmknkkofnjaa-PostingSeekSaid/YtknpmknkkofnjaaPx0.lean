-- Written by hp.py, a program of this session, over the kit's print of the translation. Not trusted: Lean checks it.
import Derived.Test.YtknpmknkkofnjaaProg
import Derived.Below
import Derived.Deep.Draws
import Derived.Deep.AppendLies
import Derived.Maps.AppendAt
import Derived.OwnWalk
import Derived.Laws.BytesArg
import Derived.Laws.MakeOwn
import Derived.Laws.OwnMore
import Derived.Deep.OwnRows
import Derived.Tactics
import Derived.Lib.ConvBytes
import Derived.Laws.Slices
import Derived.WalkKit
import Derived.KernelRfl
import Derived.RowKit3
import Derived.Deep.LoopGhost
import Derived.Deep.QuietTactic
import Derived.BigQuiet
import Derived.WideLaws
import Derived.Deep.DeepCutAuto
import Derived.Deep.CutBlock
import Derived.Deep.RegionHeld3
import Derived.Laws.Rows
import Derived.Lib.AppendStr
import Derived.ArgAppend
import Derived.Laws.IdiomCopy
import Derived.OrdersHeld
import Derived.Laws.BitsLemmas
import Derived.RowKit
import Derived.Laws.Cover3
import Derived.Lib.AppendIntMem
import Derived.Lib.OwnBridge
import Derived.Test.YtknpmknkkofnjaaPQSet05
import Derived.Test.YtknpmknkkofnjaaShelf
import Derived.Test.YtknpmknkkofnjaaWWords
import Derived.Test.YtknpmknkkofnjaaWLast
import Derived.Test.YtknpmknkkofnjaaWTab
import Derived.Test.YtknpmknkkofnjaaWFour
import Derived.Test.YtknpmknkkofnjaaWQPut
import Derived.Test.YtknpmknkkofnjaaWApart
import Derived.Test.YtknpmknkkofnjaaWArr
import Derived.Test.YtknpmknkkofnjaaWZeros
import Derived.Test.YtknpmknkkofnjaaWFoot
import Derived.Test.YtknpmknkkofnjaaWKept
import Derived.Test.YtknpmknkkofnjaaWShare
import Derived.Test.YtknpmknkkofnjaaWN
import Derived.Test.YtknpmknkkofnjaaWFootNe
import Derived.Test.YtknpmknkkofnjaaWAt
import Derived.Test.YtknpmknkkofnjaaWEqStruct
import Derived.Test.YtknpmknkkofnjaaWRepsOne
import Derived.Test.YtknpmknkkofnjaaWInv
import Derived.Test.YtknpmknkkofnjaaWInvWords
import Derived.Test.YtknpmknkkofnjaaWGuard
import Derived.Test.YtknpmknkkofnjaaWNEv
import Derived.Test.YtknpmknkkofnjaaWMore
namespace Go.Proofs.Ytknpmknkkofnjaa.P
open Go.RowKit Go.Proofs.YtknpmknkkofnjaaW.PrintWords Go.Proofs.YtknpmknkkofnjaaW.PrintLast Go.Proofs.YtknpmknkkofnjaaW.PrintMore
attribute [local go_sem] max2_int min2_int max_two min_two max_three min_three max_four min_four   -- for this text's walks alone
set_option linter.unusedVariables false
set_option linter.unusedSimpArgs false

@[go_sem] theorem u8_max_ : IntKind.u8.max = 255 := rfl
@[go_sem] theorem u32_max_ : IntKind.u32.max = 4294967295 := rfl
@[go_sem] theorem u64_max_ : IntKind.u64.max = 18446744073709551615 := rfl
@[go_sem] theorem u8_signed_ : IntKind.u8.signed = false := rfl
@[go_sem] theorem u32_signed_ : IntKind.u32.signed = false := rfl
@[go_sem] theorem u64_signed_ : IntKind.u64.signed = false := rfl
@[go_sem] theorem run_eql_slice_nil_ {P : Program} (w : World) (t e : TypeId) (a : Option Addr) (l c : Nat) (h : P.underlying t = some (.slice e)) : (binOp .eql t (.slice a l c) (.slice none 0 0)).run P w = .ok (.bool a.isNone) w := by
  simp only [binOp]
  simp [run_equal_slice_nil w t e a l c h]
/-! ### The conversion of a literal's row to its own type: '[]byte("..")' -/
section
variable {P : Program} {ops : Array Oper} {rest : List Oper} {o : Oper} {a : Act} {Q : Exit → Act → World → Prop} {W : World}
theorem conv_own_ {N : Tmp} (hgd : o.guard = none) (_hd : o.dst = some N) {t e x : Nat} (ho : o.op = .convert t t (.tmp x)) {A : Option Addr} {c : Nat} {xs : List Int} (hx : a.eval (.tmp x) = .slice A xs.length c)
    (ht : P.underlying t = some (.slice e)) (he : P.underlying e = some (.int .u8)) {w0 : World} {base : Nat} {ok : Nat → Prop} (hR : Kd.R (Kd.int .u8) e W base ok (.slice A xs.length c) xs) (hne : 0 < xs.length) (HB : Below base w0 W)
    (h : ∀ w1, Kd.C (Kd.int .u8) w1 A xs.length xs → xs.length ≤ c → Below base w0 w1 → wpList P ops Q rest (a.put o.dst (.slice A xs.length c)) w1) : wpList P ops Q (o :: rest) a W := by
  obtain ⟨hn, hlc, hC⟩ := Kd.R_reads' hR
  obtain ⟨_, inner, how, hrep⟩ := hR
  rcases how.2 with ⟨h1, h2⟩ | ⟨g, cap, cur, hv, hg, hb, _, _, _, _⟩
  · omega
  · injection hv with e1 e2 e3
    subst e1
    have hsh : W.shape? g = some (e, cur.size) := by unfold World.shape?; rw [hb]
    obtain ⟨f, hfr, hf⟩ : ∃ f : Obj → Obj, W.freeze ⟨g, cur.size, none⟩ 1 = { W with heap := W.heap.modify g f } ∧ ∀ c t q, ∃ q', f (.cells c t q) = .cells c t q' := by
      refine ⟨fun ob => match ob with | .cells c elem fz => .cells c elem (if fz.1 == fz.2 then (cur.size, cur.size + 1) else (min fz.1 cur.size, max fz.2 (cur.size + 1))) | o => o, ?_, fun c t q => ⟨_, rfl⟩⟩
      unfold World.freeze
      rw [if_neg (by decide)]
      congr 2
      funext ob
      rcases ob with ⟨c, t, q⟩ | _ <;> rfl
    have hcell : ∀ ad : Addr, (W.freeze ⟨g, cur.size, none⟩ 1).cell? ad = W.cell? ad := by
      intro ad
      rw [hfr]
      unfold World.cell?
      simp only [Array.getElem?_modify]
      by_cases hk : g = ad.block
      · subst hk
        obtain ⟨q', hq⟩ := hf cur e (0, 0)
        rw [if_pos rfl, hb, Option.map_some, hq]
      · rw [if_neg hk]
    have hrun : (execOp a.eval o).run P W = .ok (.value (.slice (some ⟨g, 0, none⟩) xs.length c)) (W.freeze ⟨g, cur.size, none⟩ 1) := by
      unfold execOp
      rw [ho]
      simp [hx, convert, run_underlying ht, run_underlying he, markStringish, hsh]
    refine Kd.event_run hgd hrun (h _ ⟨hC.1, hC.2.1, fun hp => ?_⟩ hlc ⟨?_, ?_, ?_, ?_, fun k hk => ?_⟩)
    · obtain ⟨ad, e', f⟩ := hC.2.2 hp
      refine ⟨ad, e', fun j p hj => ?_⟩
      obtain ⟨c', h1, h2, h3⟩ := f j p hj
      exact ⟨c', h1, h2, fun i u hu => by rw [hcell]; exact h3 i u hu⟩
    · rw [hfr]; exact HB.os
    · rw [hfr]; exact HB.tape
    · rw [hfr]; exact HB.output
    · rw [hfr]; simpa using HB.size
    · rw [hfr, ← HB.block k hk]
      simp only [Array.getElem?_modify]
      rw [if_neg (by omega)]
end
/-! ### A world behind another by allocations and draws alone: found by its shape -/
class Mv (w w1 : World) : Prop where
  mv : Below w.heap.size w w1
instance Mv.self_ (w : World) : Mv w w := ⟨Below.refl _ _⟩
instance Mv.alloc_ (w w1 : World) (o : Obj) [h : Mv w w1] : Mv w (w1.alloc o) := ⟨below_alloc h.mv o⟩
instance Mv.drewN_ (w w1 : World) (n : Nat) [h : Mv w w1] : Mv w (w1.drewN n) := ⟨pw_below_drewN h.mv n⟩
instance Mv.drew_ (w w1 : World) [h : Mv w w1] : Mv w w1.drew := ⟨below_drew1 h.mv⟩
theorem rM {α : Type} {d : Kd α} {e : Nat} {w w1 : World} {base : Nat} {ok : Nat → Prop} {v : Value} {xs : List α} (h : d.R e w base ok v xs) [m : Mv w w1] : d.R e w1 base ok v xs := Kd.R_below h m.mv
theorem cM {α : Type} {d : Kd α} {w w1 : World} {A : Option Addr} {n : Nat} {xs : List α} (h : d.C w A n xs) [m : Mv w w1] : d.C w1 A n xs := Kd.C_below h m.mv
theorem bM {w0 w w1 : World} (h : Below w0.heap.size w0 w) [m : Mv w w1] : Below w0.heap.size w0 w1 := below_then h h.size m.mv



def errW : Option Int → Value
  | none => .nilIface
  | some c => .iface 0 (.int .i64 c)
theorem errW_none : errW none = .nilIface := rfl
theorem errW_some (c : Int) : errW (some c) = .iface 0 (.int .i64 c) := rfl

theorem info3 : (Try.prog.info? 3).map (fun i => (i.zero, i.size, i.bytes)) = some (some (.int .i64 0), 1, 8) := by kernel_rfl
theorem info5 : (Try.prog.info? 5).map (fun i => (i.zero, i.size, i.bytes)) = some (some (.int .u8 0), 1, 1) := by kernel_rfl
theorem info22 : (Try.prog.info? 22).map (fun i => (i.zero, i.size, i.bytes)) = some (some (.slice none 0 0), 1, 24) := by kernel_rfl
-- the values' own types
def rd_L1 (xs : List (List Int)) (i : Int) : (List Int) := xs.getD i.toNat ([] : List Int)
theorem at_L1 {w : World} {A : Option Addr} {n : Nat} {xs : List (List Int)} (h : Kd.C (Kd.slice 3 (Kd.int .i64)) w A n xs) (i : Int) (h0 : 0 ≤ i) (h1 : i < n) : ∃ ad A0 c0, A = some ad ∧ w.cell? (ad.add i.toNat) = some (.slice A0 (rd_L1 xs i).length c0) ∧ (rd_L1 xs i).length ≤ c0 ∧ (Kd.int .i64).C w A0 (rd_L1 xs i).length (rd_L1 xs i) := by
  obtain ⟨ad, c, e, _, hK, hc0⟩ := Kd.C_get h ([] : List Int) i h0 h1
  have hc : ∀ j u, c[j]? = some u → w.cell? (ad.add (i.toNat * 1 + j)) = some u := hc0
  obtain ⟨A0, c0, rfl, l0, g0⟩ := hK
  exact ⟨ad, A0, c0, e, by have hq := hc 0 _ rfl; rwa [Nat.mul_one, Nat.add_zero] at hq, l0, g0⟩

end Go.Proofs.Ytknpmknkkofnjaa.P
