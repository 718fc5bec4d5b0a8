-- Written by hp.py, a program of this session, over the kit's print of the translation. Not trusted: Lean checks it.
import Derived.Test.YtpnhamfodjfacaaDoorProg
import Derived.Below
import Derived.Deep.Draws
import Derived.Deep.AppendLies
import Derived.Maps.AppendAt
import Derived.OwnWalk
import Derived.Laws.BytesArg
import Derived.Laws.MakeOwn
import Derived.Laws.OwnMore
import Derived.Deep.OwnRows
import Derived.Tactics
import Derived.Lib.ConvBytes
import Derived.Laws.Slices
import Derived.WalkKit
import Derived.KernelRfl
import Derived.RowKit3
import Derived.Deep.LoopGhost
import Derived.Deep.QuietTactic
import Derived.BigQuiet
import Derived.WideLaws
import Derived.Deep.DeepCutAuto
import Derived.Deep.CutBlock
import Derived.Deep.RegionHeld3
import Derived.Laws.Rows
import Derived.Lib.AppendStr
import Derived.ArgAppend
import Derived.Laws.IdiomCopy
import Derived.OrdersHeld
import Derived.Laws.BitsLemmas
import Derived.RowKit
import Derived.Laws.Cover3
import Derived.WalkMore
import Derived.Lib.AppendIntMem
import Derived.Lib.OwnBridge
import Derived.Maps.OwnOps
import Derived.Maps.OwnSet
import Derived.Maps.RangeWalk
import Derived.Sort.MapsRangeIn
import Derived.StringKeys
import Derived.Test.YtpnhamfodjfacaaDoorMQSetS
import Derived.Test.YtpnhamfodjfacaaDoorShelf
import Derived.Test.YtpnhamfodjfacaaDoorWWords
import Derived.Test.YtpnhamfodjfacaaDoorWLast
import Derived.Test.YtpnhamfodjfacaaDoorWTab
import Derived.Test.YtpnhamfodjfacaaDoorWFour
import Derived.Test.YtpnhamfodjfacaaDoorWQPut
import Derived.Test.YtpnhamfodjfacaaDoorWApart
import Derived.Test.YtpnhamfodjfacaaDoorWArr
import Derived.Test.YtpnhamfodjfacaaDoorWZeros
import Derived.Test.YtpnhamfodjfacaaDoorWFoot
import Derived.Test.YtpnhamfodjfacaaDoorWKept
import Derived.Test.YtpnhamfodjfacaaDoorWShare
import Derived.Test.YtpnhamfodjfacaaDoorWN
import Derived.Test.YtpnhamfodjfacaaDoorWFootNe
import Derived.Test.YtpnhamfodjfacaaDoorWAt
import Derived.Test.YtpnhamfodjfacaaDoorWEqStruct
import Derived.Test.YtpnhamfodjfacaaDoorWRepsOne
import Derived.Test.YtpnhamfodjfacaaDoorWInv
import Derived.Test.YtpnhamfodjfacaaDoorWInvWords
import Derived.Test.YtpnhamfodjfacaaDoorWGuard
import Derived.Test.YtpnhamfodjfacaaDoorWNEv
import Derived.Test.YtpnhamfodjfacaaDoorWMore
namespace Go.Proofs.YtpnhamfodjfacaaDoor.M
open Go.RowKit Go.Proofs.YtpnhamfodjfacaaDoorW.PrintWords Go.Proofs.YtpnhamfodjfacaaDoorW.PrintLast Go.Proofs.YtpnhamfodjfacaaDoorW.PrintMore
attribute [local go_sem] max2_int min2_int max_two min_two max_three min_three max_four min_four   -- for this text's walks alone
set_option linter.unusedVariables false
set_option linter.unusedSimpArgs false

@[go_sem] theorem u8_max_ : IntKind.u8.max = 255 := rfl
@[go_sem] theorem u32_max_ : IntKind.u32.max = 4294967295 := rfl
@[go_sem] theorem u64_max_ : IntKind.u64.max = 18446744073709551615 := rfl
@[go_sem] theorem u8_signed_ : IntKind.u8.signed = false := rfl
@[go_sem] theorem u32_signed_ : IntKind.u32.signed = false := rfl
@[go_sem] theorem u64_signed_ : IntKind.u64.signed = false := rfl
@[go_sem] theorem run_eql_slice_nil_ {P : Program} (w : World) (t e : TypeId) (a : Option Addr) (l c : Nat) (h : P.underlying t = some (.slice e)) : (binOp .eql t (.slice a l c) (.slice none 0 0)).run P w = .ok (.bool a.isNone) w := by
  simp only [binOp]
  simp [run_equal_slice_nil w t e a l c h]
/-! ### The conversion of a literal's row to its own type: '[]byte("..")' -/
section
variable {P : Program} {ops : Array Oper} {rest : List Oper} {o : Oper} {a : Act} {Q : Exit → Act → World → Prop} {W : World}
theorem conv_own_ {N : Tmp} (hgd : o.guard = none) (_hd : o.dst = some N) {t e x : Nat} (ho : o.op = .convert t t (.tmp x)) {A : Option Addr} {c : Nat} {xs : List Int} (hx : a.eval (.tmp x) = .slice A xs.length c)
    (ht : P.underlying t = some (.slice e)) (he : P.underlying e = some (.int .u8)) {w0 : World} {base : Nat} {ok : Nat → Prop} (hR : Kd.R (Kd.int .u8) e W base ok (.slice A xs.length c) xs) (hne : 0 < xs.length) (HB : Below base w0 W)
    (h : ∀ w1, Kd.C (Kd.int .u8) w1 A xs.length xs → xs.length ≤ c → Below base w0 w1 → wpList P ops Q rest (a.put o.dst (.slice A xs.length c)) w1) : wpList P ops Q (o :: rest) a W := by
  obtain ⟨hn, hlc, hC⟩ := Kd.R_reads' hR
  obtain ⟨_, inner, how, hrep⟩ := hR
  rcases how.2 with ⟨h1, h2⟩ | ⟨g, cap, cur, hv, hg, hb, _, _, _, _⟩
  · omega
  · injection hv with e1 e2 e3
    subst e1
    have hsh : W.shape? g = some (e, cur.size) := by unfold World.shape?; rw [hb]
    obtain ⟨f, hfr, hf⟩ : ∃ f : Obj → Obj, W.freeze ⟨g, cur.size, none⟩ 1 = { W with heap := W.heap.modify g f } ∧ ∀ c t q, ∃ q', f (.cells c t q) = .cells c t q' := by
      refine ⟨fun ob => match ob with | .cells c elem fz => .cells c elem (if fz.1 == fz.2 then (cur.size, cur.size + 1) else (min fz.1 cur.size, max fz.2 (cur.size + 1))) | o => o, ?_, fun c t q => ⟨_, rfl⟩⟩
      unfold World.freeze
      rw [if_neg (by decide)]
      congr 2
      funext ob
      rcases ob with ⟨c, t, q⟩ | _ <;> rfl
    have hcell : ∀ ad : Addr, (W.freeze ⟨g, cur.size, none⟩ 1).cell? ad = W.cell? ad := by
      intro ad
      rw [hfr]
      unfold World.cell?
      simp only [Array.getElem?_modify]
      by_cases hk : g = ad.block
      · subst hk
        obtain ⟨q', hq⟩ := hf cur e (0, 0)
        rw [if_pos rfl, hb, Option.map_some, hq]
      · rw [if_neg hk]
    have hrun : (execOp a.eval o).run P W = .ok (.value (.slice (some ⟨g, 0, none⟩) xs.length c)) (W.freeze ⟨g, cur.size, none⟩ 1) := by
      unfold execOp
      rw [ho]
      simp [hx, convert, run_underlying ht, run_underlying he, markStringish, hsh]
    refine Kd.event_run hgd hrun (h _ ⟨hC.1, hC.2.1, fun hp => ?_⟩ hlc ⟨?_, ?_, ?_, ?_, fun k hk => ?_⟩)
    · obtain ⟨ad, e', f⟩ := hC.2.2 hp
      refine ⟨ad, e', fun j p hj => ?_⟩
      obtain ⟨c', h1, h2, h3⟩ := f j p hj
      exact ⟨c', h1, h2, fun i u hu => by rw [hcell]; exact h3 i u hu⟩
    · rw [hfr]; exact HB.os
    · rw [hfr]; exact HB.tape
    · rw [hfr]; exact HB.output
    · rw [hfr]; simpa using HB.size
    · rw [hfr, ← HB.block k hk]
      simp only [Array.getElem?_modify]
      rw [if_neg (by omega)]
end
/-! ### A world behind another by allocations and draws alone: found by its shape -/
class Mv (w w1 : World) : Prop where
  mv : Below w.heap.size w w1
instance Mv.self_ (w : World) : Mv w w := ⟨Below.refl _ _⟩
instance Mv.alloc_ (w w1 : World) (o : Obj) [h : Mv w w1] : Mv w (w1.alloc o) := ⟨below_alloc h.mv o⟩
instance Mv.drewN_ (w w1 : World) (n : Nat) [h : Mv w w1] : Mv w (w1.drewN n) := ⟨pw_below_drewN h.mv n⟩
instance Mv.drew_ (w w1 : World) [h : Mv w w1] : Mv w w1.drew := ⟨below_drew1 h.mv⟩
theorem rM {α : Type} {d : Kd α} {e : Nat} {w w1 : World} {base : Nat} {ok : Nat → Prop} {v : Value} {xs : List α} (h : d.R e w base ok v xs) [m : Mv w w1] : d.R e w1 base ok v xs := Kd.R_below h m.mv
theorem cM {α : Type} {d : Kd α} {w w1 : World} {A : Option Addr} {n : Nat} {xs : List α} (h : d.C w A n xs) [m : Mv w w1] : d.C w1 A n xs := Kd.C_below h m.mv
theorem bM {w0 w w1 : World} (h : Below w0.heap.size w0 w) [m : Mv w w1] : Below w0.heap.size w0 w1 := below_then h h.size m.mv
theorem one_byte_ (s : ByteArray) (h : s.size = 1) : s = ⟨#[s.data.toList.headD 0]⟩ := by
  obtain ⟨⟨l⟩⟩ := s
  match l, h with
  | [c], _ => rfl
/-! ### '<=' and '>' of strings by '<' alone -/
theorem bytesLess_lt_ : ∀ (x y : List UInt8), Op.bytesLess x y = decide (x < y)
  | [], [] => by simp [Op.bytesLess]
  | [], _ :: _ => by simp [Op.bytesLess]
  | _ :: _, [] => by simp [Op.bytesLess]
  | a :: x, b :: y => by
    rw [Op.bytesLess, bytesLess_lt_ x y]
    rw [decide_eq_decide.2 List.cons_lt_cons_iff, Bool.decide_or, Bool.decide_and]
    congr 2
theorem leq_bytes_ (a b : List UInt8) : (Op.bytesLess a b || a == b) = !Op.bytesLess b a := by
  rw [bytesLess_lt_, bytesLess_lt_]
  by_cases h : b < a
  · have h1 : ¬ a < b := List.lt_asymm h
    have h2 : a ≠ b := fun e => by rw [e] at h; exact List.lt_irrefl _ h
    simp [h, h1, h2]
  · have h1 : a ≤ b := h
    by_cases h3 : a < b
    · simp [h, h3]
    · have : a = b := List.le_antisymm h1 h3
      simp [this, List.lt_irrefl]
@[go_sem] theorem binOp_leq_ (t : TypeId) (a b : ByteArray) : binOp .leq t (.string a) (.string b) = pure (.bool !(Op.bytesLess b.toList a.toList)) := by
  rw [← leq_bytes_]; simp [binOp, Op.stringOp]
@[go_sem] theorem binOp_gtr_ (t : TypeId) (a b : ByteArray) : binOp .gtr t (.string a) (.string b) = pure (.bool (Op.bytesLess b.toList a.toList)) := by
  rw [show Op.bytesLess b.toList a.toList = !(Op.bytesLess a.toList b.toList || a.toList == b.toList) from by rw [leq_bytes_, Bool.not_not]]; simp [binOp, Op.stringOp]
@[go_sem] theorem binOp_geq_ (t : TypeId) (a b : ByteArray) : binOp .geq t (.string a) (.string b) = pure (.bool !(Op.bytesLess a.toList b.toList)) := by simp [binOp, Op.stringOp]



def errW : Option Int → Value
  | none => .nilIface
  | some c => .iface 0 (.int .i64 c)
theorem errW_none : errW none = .nilIface := rfl
theorem errW_some (c : Int) : errW (some c) = .iface 0 (.int .i64 c) := rfl

theorem info9 : (Tryd.prog.info? 9).map (fun i => (i.zero, i.size, i.bytes)) = some (some (.string ⟨#[]⟩), 1, 16) := by kernel_rfl
theorem info22 : (Tryd.prog.info? 22).map (fun i => (i.zero, i.size, i.bytes)) = some (some (.slice none 0 0), 1, 24) := by kernel_rfl
theorem info45 : (Tryd.prog.info? 45).map (fun i => (i.zero, i.size, i.bytes)) = some (some (.agg #[(.string ⟨#[]⟩), (.int .i64 0)]), 2, 24) := by kernel_rfl
theorem info47 : (Tryd.prog.info? 47).map (fun i => (i.zero, i.size, i.bytes)) = some (some (.agg #[(.string ⟨#[]⟩), (.int .i64 0)]), 2, 24) := by kernel_rfl
-- the values' own types
/-! #### struct type 45 -/
structure S45 where
  f0 : ByteArray
  f1 : Int
def z45 : S45 := ⟨(⟨#[]⟩ : ByteArray), (0 : Int)⟩
def k45 : Kd S45 := Kd.iso (Kd.pair Kd.string (Kd.int .i64)) (fun x : S45 => (x.f0, x.f1))
theorem k45_heap : Kd.Heap k45 := Kd.heap_iso _ (Kd.heap_pair Kd.heap_string (Kd.heap_int .i64))
theorem k45_open {w : World} {x : S45} {cs : List Value} (h : k45.K w x cs) : cs = [.string x.f0, .int .i64 x.f1] := by
  obtain ⟨_, _, rfl, rfl, rfl⟩ := h
  exact rfl
theorem k45_openM {w : World} {base : Nat} {ok : Nat → Prop} {x : S45} {cs : List Value} (h : k45.M w base ok x cs) : cs = [.string x.f0, .int .i64 x.f1] := by
  obtain ⟨_, _, rfl, rfl, rfl⟩ := h
  exact rfl
theorem k45_mk (w : World) (x : S45)  : k45.K w x [.string x.f0, .int .i64 x.f1] := ⟨[.string x.f0], [.int .i64 x.f1], rfl, rfl, rfl⟩
theorem k45_mkM (w : World) (base : Nat) (ok : Nat → Prop) (x : S45)  : k45.M w base ok x [.string x.f0, .int .i64 x.f1] := ⟨[.string x.f0], [.int .i64 x.f1], rfl, rfl, rfl⟩
theorem k45_mkF (W : World) (ok : Nat → Prop) (x : S45) : Kd.FK k45 W ok x [.string x.f0, .int .i64 x.f1] := fun W2 _ => k45_mk W2 x
def rd_T45 (xs : List S45) (i : Int) : S45 := xs.getD i.toNat z45
theorem at_T45 {w : World} {A : Option Addr} {n : Nat} {xs : List S45} (h : Kd.C k45 w A n xs) (i : Int) (h0 : 0 ≤ i) (h1 : i < n) : ∃ ad , A = some ad ∧ w.cell? (ad.add (i.toNat * 2)) = some (.string (rd_T45 xs i).f0) ∧ w.cell? ⟨(ad.add (i.toNat * 2)).block, (ad.add (i.toNat * 2)).off + 1, none⟩ = some (.int .i64 (rd_T45 xs i).f1) := by
  obtain ⟨ad, c, e, _, hK, hc0⟩ := Kd.C_get h z45 i h0 h1
  have hc : ∀ j u, c[j]? = some u → w.cell? (ad.add (i.toNat * 2 + j)) = some u := hc0
  obtain rfl := k45_open hK
  exact ⟨ad, e, hc 0 _ rfl, by rw [← add_field _ _ 1 (by omega)]; exact hc 1 _ rfl⟩

/-! #### struct type 47 -/
structure S47 where
  f0 : ByteArray
  f1 : Int
def z47 : S47 := ⟨(⟨#[]⟩ : ByteArray), (0 : Int)⟩
def k47 : Kd S47 := Kd.iso (Kd.pair Kd.string (Kd.int .i64)) (fun x : S47 => (x.f0, x.f1))
theorem k47_heap : Kd.Heap k47 := Kd.heap_iso _ (Kd.heap_pair Kd.heap_string (Kd.heap_int .i64))
theorem k47_open {w : World} {x : S47} {cs : List Value} (h : k47.K w x cs) : cs = [.string x.f0, .int .i64 x.f1] := by
  obtain ⟨_, _, rfl, rfl, rfl⟩ := h
  exact rfl
theorem k47_openM {w : World} {base : Nat} {ok : Nat → Prop} {x : S47} {cs : List Value} (h : k47.M w base ok x cs) : cs = [.string x.f0, .int .i64 x.f1] := by
  obtain ⟨_, _, rfl, rfl, rfl⟩ := h
  exact rfl
theorem k47_mk (w : World) (x : S47)  : k47.K w x [.string x.f0, .int .i64 x.f1] := ⟨[.string x.f0], [.int .i64 x.f1], rfl, rfl, rfl⟩
theorem k47_mkM (w : World) (base : Nat) (ok : Nat → Prop) (x : S47)  : k47.M w base ok x [.string x.f0, .int .i64 x.f1] := ⟨[.string x.f0], [.int .i64 x.f1], rfl, rfl, rfl⟩
theorem k47_mkF (W : World) (ok : Nat → Prop) (x : S47) : Kd.FK k47 W ok x [.string x.f0, .int .i64 x.f1] := fun W2 _ => k47_mk W2 x
def rd_T47 (xs : List S47) (i : Int) : S47 := xs.getD i.toNat z47
theorem at_T47 {w : World} {A : Option Addr} {n : Nat} {xs : List S47} (h : Kd.C k47 w A n xs) (i : Int) (h0 : 0 ≤ i) (h1 : i < n) : ∃ ad , A = some ad ∧ w.cell? (ad.add (i.toNat * 2)) = some (.string (rd_T47 xs i).f0) ∧ w.cell? ⟨(ad.add (i.toNat * 2)).block, (ad.add (i.toNat * 2)).off + 1, none⟩ = some (.int .i64 (rd_T47 xs i).f1) := by
  obtain ⟨ad, c, e, _, hK, hc0⟩ := Kd.C_get h z47 i h0 h1
  have hc : ∀ j u, c[j]? = some u → w.cell? (ad.add (i.toNat * 2 + j)) = some u := hc0
  obtain rfl := k47_open hK
  exact ⟨ad, e, hc 0 _ rfl, by rw [← add_field _ _ 1 (by omega)]; exact hc 1 _ rfl⟩

def rd_L4 (xs : List (List S45)) (i : Int) : (List S45) := xs.getD i.toNat ([] : List S45)
theorem at_L4 {w : World} {A : Option Addr} {n : Nat} {xs : List (List S45)} (h : Kd.C (Kd.slice 45 k45) w A n xs) (i : Int) (h0 : 0 ≤ i) (h1 : i < n) : ∃ ad A0 c0, A = some ad ∧ w.cell? (ad.add i.toNat) = some (.slice A0 (rd_L4 xs i).length c0) ∧ (rd_L4 xs i).length ≤ c0 ∧ k45.C w A0 (rd_L4 xs i).length (rd_L4 xs i) := by
  obtain ⟨ad, c, e, _, hK, hc0⟩ := Kd.C_get h ([] : List S45) i h0 h1
  have hc : ∀ j u, c[j]? = some u → w.cell? (ad.add (i.toNat * 1 + j)) = some u := hc0
  obtain ⟨A0, c0, rfl, l0, g0⟩ := hK
  exact ⟨ad, A0, c0, e, by have hq := hc 0 _ rfl; rwa [Nat.mul_one, Nat.add_zero] at hq, l0, g0⟩

end Go.Proofs.YtpnhamfodjfacaaDoor.M
