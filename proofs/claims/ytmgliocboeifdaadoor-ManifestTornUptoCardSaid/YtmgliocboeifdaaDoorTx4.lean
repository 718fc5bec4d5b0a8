-- Written by hp.py, a program of this session, over the kit's print of the translation. Not trusted: Lean checks it.
import Derived.Test.YtmgliocboeifdaaDoorTx0
import Derived.Test.YtmgliocboeifdaaDoorTx1
namespace Go.Proofs.YtmgliocboeifdaaDoor.T
open Go.RowKit Go.Proofs.YtmgliocboeifdaaDoorW.PrintWords Go.Proofs.YtmgliocboeifdaaDoorW.PrintLast Go.Proofs.YtmgliocboeifdaaDoorW.PrintMore
attribute [local go_sem] max2_int min2_int max_two min_two max_three min_three max_four min_four   -- for this text's walks alone
set_option linter.unusedVariables false
set_option linter.unusedSimpArgs false

/-! ### varint_Put: function 38 (by hand) -/
/-- The digits to the base 128, the lowest one first. -/
def enc7 : Nat → Int → List Int
  | 0, _ => []
  | k + 1, x => if x ≥ 128 then (x % 128 + 128) :: enc7 k (x / 128) else [x]
def varint_Put.f (l0 : List Int) (a1 : Int) : Option (List Int) := if l0.length + 10 < 140737488355328 then some (l0 ++ enc7 10 (IntKind.u64.wrap (mx a1 0))) else none
def varint_Put.l0 : Nat → List Int → Int → Option (List Int)
  | 0, _, _ => none
  | k + 1, x5, x6 => if x6 ≥ 128 then (if x5.length < 140737488355328 then (varint_Put.l0 k (x5 ++ [Go.bits .or .u8 (x6 % 256) 128]) (x6 / 128)) else (none)) else (if x5.length < 140737488355328 then (some (x5 ++ [x6 % 256])) else (none))
theorem bits_or128 (x : Int) (h0 : 0 ≤ x) : Go.bits .or .u8 (x % 256) 128 = x % 128 + 128 := by
  have h : ∀ a : Fin 256, Go.bits .or .u8 (a.val : Int) 128 = (a.val : Int) % 128 + 128 := by decide +kernel
  have h1 := h ⟨(x % 256).toNat, by omega⟩
  simp only at h1
  rw [show (((x % 256).toNat : Nat) : Int) = x % 256 from by omega] at h1
  rw [h1]; omega
theorem varint_Put.l0_enc (k : Nat) : ∀ (x5 : List Int) (x6 : Int), 0 ≤ x6 → x6 < 128 ^ (k + 1) → x5.length + k + 1 < 140737488355328 → varint_Put.l0 (k + 1) x5 x6 = some (x5 ++ enc7 (k + 1) x6) := by
  induction k with
  | zero =>
    intro x5 x6 h0 h1 h2
    have hn : ¬ x6 ≥ 128 := by omega
    rw [varint_Put.l0, enc7, if_neg hn, if_neg hn, if_pos (show x5.length < 140737488355328 by omega), show x6 % 256 = x6 from by omega]
  | succ k ih =>
    intro x5 x6 h0 h1 h2
    rw [varint_Put.l0, enc7]
    by_cases h : x6 ≥ 128
    · rw [if_pos h, if_pos h, if_pos (show x5.length < 140737488355328 by omega), bits_or128 x6 h0, ih _ _ (by omega) (by rw [Int.pow_succ] at h1; omega) (by simp; omega)]
      simp
    · rw [if_neg h, if_neg h, if_pos (show x5.length < 140737488355328 by omega), show x6 % 256 = x6 from by omega]
theorem wrap_u64_range (x : Int) : 0 ≤ IntKind.u64.wrap x ∧ IntKind.u64.wrap x < 18446744073709551616 := by
  simp [IntKind.wrap, IntKind.bits, IntKind.signed]; omega
theorem varint_Put.of_f {l0 : List Int} {a1 : Int} {r : List Int} (h : varint_Put.f l0 a1 = some r) : varint_Put.l0 10 l0 (IntKind.u64.wrap (mx a1 0)) = some r := by
  unfold varint_Put.f at h
  split at h
  · rw [varint_Put.l0_enc 9 l0 _ (wrap_u64_range _).1 (Int.lt_of_lt_of_le (wrap_u64_range _).2 (by decide)) (by omega)]; exact h
  · cases h
/-- A row of the call's own, or one that came in and has no room behind it. -/
def SrcU8 (w0 W : World) (v : Value) (xs : List Int) : Prop :=
  Kd.R (Kd.int .u8) 5 W w0.heap.size (fun _ => True) v xs ∨ ∃ A, v = .slice A xs.length xs.length ∧ (A = none → xs.length = 0) ∧ Kd.C (Kd.int .u8) W A xs.length xs
theorem src_below {w0 W W1 : World} {v : Value} {xs : List Int} (h : SrcU8 w0 W v xs) (hb : Below W.heap.size W W1) : SrcU8 w0 W1 v xs := by
  rcases h with h | ⟨A, h1, h2, h3⟩
  · exact .inl (Kd.R_below h hb)
  · exact .inr ⟨A, h1, h2, Kd.C_below h3 hb⟩
section
variable {P : Program} {ops : Array Oper} {rest : List Oper} {o : Oper} {a : Act} {Q : Exit → Act → World → Prop}
theorem src_append {w0 W : World} (hgd : o.guard = none) (s x : Operand) (t : TypeId)
    (ho : o.op = .call { callee := .builtin .append, args := #[s, x], argTypes := #[t, t] })
    (ht : P.underlying t = some (.slice 5)) (hinfo : (P.info? 5).map (fun i => (i.zero, i.size, i.bytes)) = some (some (.int .u8 0), 1, 1))
    (v : Value) (xs : List Int) (p : Int) (hs : a.eval s = v) (hx : a.eval x = .slice (some ⟨W.heap.size, 0, none⟩) 1 1)
    (HO : SrcU8 w0 W v xs) (HB : Below w0.heap.size w0 W) (hl : xs.length < 140737488355328)
    (h : ∀ v1 w1, Kd.R (Kd.int .u8) 5 w1 w0.heap.size (fun _ => True) v1 (xs ++ [p]) → Below w0.heap.size w0 w1 → wpList P ops Q rest (a.put o.dst v1) w1) :
    wpList P ops Q (o :: rest) a (W.alloc (.cells #[.int .u8 p] 5)) := by
  rcases HO with HO | ⟨A, rfl, hA, hC⟩
  · exact Kd.R_append (Kd.int .u8) (w0 := w0) w0.heap.size hgd s x t 5 (.int .u8 0) 1 ho ht hinfo rfl (by decide) (by omega) v xs p [.int .u8 p] (fun _ => True) (fun _ => False) hs hx rfl (fun _ hk => hk.elim) (fun _ _ => trivial) HO HB HB.size (by omega) (fun v1 w1 h1 h2 _ _ => h v1 w1 h1 h2)
  · obtain ⟨i0, hi, hzz⟩ := Option.map_eq_some_iff.1 hinfo
    simp only [Prod.mk.injEq] at hzz
    obtain ⟨hz0, hz1, hz2⟩ := hzz
    have hC' := readsInt_of.2 (Kd.reads_of_C (enc := Value.int .u8) (d := (0 : Int)) (h1 := fun _ => rfl) hC)
    refine wpList_append_grows (W.alloc (.cells #[.int .u8 p] 5)) hgd s x t ho 5 i0 (.int .u8 0) 1 1 ht hi hz0 hz1 hz2 rfl (by decide) A xs.length xs.length (nums .u8 xs) hs (fun e => ⟨hA e, hA e⟩) (by simp [nums_length])
      (fun b hb j u hj => ?_) ⟨W.heap.size, 0, none⟩ 1 1 [.int .u8 p] hx rfl
      (by simpa using World.news_of_block (cs := #[.int .u8 p]) (t := 5) (fr := (0, 0)) (heap_alloc_new W (.cells #[.int .u8 p] 5))) (by simp [Value.oneCell']) (by omega) (by simp only [maxLen]; omega) (by omega) ?_
    · have hjl : j < xs.length := by
        have := (List.getElem?_eq_some_iff.1 hj).1
        simpa [nums_length] using this
      obtain ⟨ad, e, hc⟩ := hC'.2.2 (by omega)
      subst hb
      cases e
      have h1 := hc j hjl
      have h2 : u = .int .u8 (xs.getD j 0) := by
        simp [nums, List.getElem?_eq_getElem hjl] at hj
        rw [← hj, List.getD_eq_getElem?_getD, List.getElem?_eq_getElem hjl]; rfl
      rw [h2]
      exact (Below.cell ((Below.refl W.heap.size W).alloc (Nat.le_refl _) _) (World.block_lt_of_cell? W _ h1)).trans h1
    · intro v' w' hown hg
      have hown' : w'.ownsRow w0.heap.size 5 1 v' (xs ++ [p]).length (encs (Value.int .u8) (xs ++ [p])) := by
        have : encs (Value.int .u8) (xs ++ [p]) = nums .u8 xs ++ [.int .u8 p] := by simp [encs, nums]
        rw [this, List.length_append, List.length_singleton]
        exact own_weaken hown (by have := HB.size; simp; omega)
      refine h v' w' (Kd.R_of_own hown' (fun _ _ => trivial)) ?_
      exact (HB.alloc HB.size _).grown hg (by have := HB.size; simp; omega) (fun k hk => by cases hk)
end
set_option maxHeartbeats 8000000 in
set_option maxRecDepth 100000 in
theorem varint_Put.calls (A0 : Option Addr) (c0 : Nat) (l0 : List Int) (a1 : Int) (r : List Int) (w : World) (hr0 : Kd.C (Kd.int .u8) w A0 l0.length l0) (hc0 : l0.length ≤ c0) (h : varint_Put.f l0 a1 = some r) :
    Calls Tryd.prog 38 #[.slice A0 l0.length c0, .int .i64 a1] w fun e w' => ∃ v0_ : Value, e = .returned (v0_) ∧ Kd.R (Kd.int .u8) 5 w' w.heap.size (fun _ => True) v0_ r ∧ Below w.heap.size w w' := by
  have HR0 := aK hr0
  have HC0 := aK hc0
  clear hr0 hc0
  have HB := aK (Below.refl w.heap.size w)
  have H : (varint_Put.l0 10 l0 (IntKind.u64.wrap (mx a1 0))) = some r := varint_Put.of_f h
  clear h
  have H' := aK H
  clear H
  have hcc := HC0.out
  have hc2 : (l0.length : Int) ≤ (c0 : Int) := by omega
  clear hcc
  obtain ⟨ji, hji⟩ : ∃ j_ : Int, (mx a1 0) = j_ := ⟨_, rfl⟩
  rw [hji] at H'
  have hji_ : (if a1 < 0 then 0 else a1) = ji := hji
  clear hji
  go_enter Tryd.func38, Tryd.ntmps38
  go_wp2
  go_loopg [5, 6] 10 (fun kq v5 v6 w' => ∃ (x5_1 : List Int) (x6_1 : Int), v6 = .int .u64 x6_1 ∧ Aside0 (varint_Put.l0 kq x5_1 x6_1 = some r) ∧ Aside0 (kq ≤ 10) ∧ Aside0 (SrcU8 w w' v5 x5_1) ∧ Aside0 (Below w.heap.size w w'))
  case atStart =>
    refine ⟨l0, IntKind.u64.wrap ji, rfl, H', ⟨Nat.le_refl _⟩, ⟨.inr ⟨A0, rfl, fun e => ?_, HR0.out⟩⟩, HB⟩
    rcases Nat.eq_zero_or_pos l0.length with hl | hl
    · exact hl
    · obtain ⟨ad, ea, _⟩ := HR0.out.2.2 hl
      rw [e] at ea
      cases ea
  case round =>
    clear H'
    obtain ⟨x5_1, x6_1, rfl, HA, HK1, HO_5, HB⟩ := hrel
    cases gk with
    | zero => exact absurd HA.out (by simp [varint_Put.l0])
    | succ k1 =>
      have H := HA.out
      clear HA
      simp only [varint_Put.l0] at H
      by_cases c3 : x6_1 ≥ 128
      · rw [if_pos c3] at H
        have c3b0 := decide_eq_true c3
        clear c3
        by_cases c5 : x5_1.length < 140737488355328
        · rw [if_pos c5] at H
          have LMc5 := aK c5
          clear c5
          obtain ⟨y1, hy1⟩ : ∃ y_ : List Int, y_ = x5_1 ++ [Go.bits .or .u8 (x6_1 % 256) 128] := ⟨_, rfl⟩
          rw [← hy1] at H
          have Ny1 := aK hy1
          clear hy1
          have H' := aK H
          clear H
          go_wp2_with (first | ((with_reducible refine gate_builtin (b := .append) (xs := #[.tmp 18, .tmp 22]) rfl ?_); at_builtin; refine src_append (w0 := w) rfl (.tmp 18) (.tmp 22) 29 rfl Tryd.underlying29 info5 u5 x5_1 (Go.bits .or .u8 (x6_1 % 256) 128) rfl rfl ?aO ?aB ?aL ?_; (case aB => exact HB.out); (case aO => exact HO_5.out); (case aL => exact LMc5.out); intro v120 w6 ho hb; rw [← Ny1.out] at ho; have n0_ := aK (hb); have n1_ := aK (ho); clear HB; clear HO_5; have HB := n0_; have HO121 := n1_; clear n0_ n1_; clear ho hb))
          go_roundg k1
          case measure => have := HK1.out; omega
          case rel => exact ⟨y1, _, rfl, H', ⟨by have := HK1.out; omega⟩, ⟨.inl HO121.out⟩, HB⟩
        · rw [if_neg c5] at H
          exact absurd H (by simp)
      · rw [if_neg c3] at H
        have c3b0 := decide_eq_false c3
        clear c3
        by_cases c5 : x5_1.length < 140737488355328
        · rw [if_pos c5] at H
          have LMc5 := aK c5
          clear c5
          obtain ⟨y1, hy1⟩ : ∃ y_ : List Int, y_ = x5_1 ++ [x6_1 % 256] := ⟨_, rfl⟩
          rw [← hy1] at H
          have Ny1 := aK hy1
          clear hy1
          have H' := aK H
          clear H
          go_wp2_with (first | ((with_reducible refine gate_builtin (b := .append) (xs := #[.tmp 26, .tmp 29]) rfl ?_); at_builtin; refine src_append (w0 := w) rfl (.tmp 26) (.tmp 29) 29 rfl Tryd.underlying29 info5 u5 x5_1 (x6_1 % 256) rfl rfl ?aO ?aB ?aL ?_; (case aB => exact HB.out); (case aO => exact HO_5.out); (case aL => exact LMc5.out); intro v120 w6 ho hb; rw [← Ny1.out] at ho; have n0_ := aK (hb); have n1_ := aK (ho); clear HB; clear HO_5; have HB := n0_; have HO121 := n1_; clear n0_ n1_; clear ho hb))
          obtain rfl := Option.some.inj H'.out
          go_ret
          exact ⟨_, rfl, HO121.out, HB.out⟩
        · rw [if_neg c5] at H
          exact absurd H (by simp)

/-! ### varint_PutList: function 46 -/
mutual
def varint_PutList.l0 : Nat → List Int → List Int → Int → Int → Option (List Int × Int)
|0,_,_,_,_ => none
|k + 1,x0,x1,x11,x12 => if x12 < x11 then (if 0 ≤ x12 then (if x12 < (x1.length : Int) then (if (rd x1 x12) < 0 then (some (([] : List Int),1)) else (if x12 > 0 then (if 0 ≤ (wrap64 (x12 - 1)) then (if (wrap64 (x12 - 1)) < (x1.length : Int) then (if (rd x1 (wrap64 (x12 - 1))) ≥ (rd x1 x12) then (some (([] : List Int),1)) else (varint_PutList.l0 k x0 x1 x11 (wrap64 (x12 + 1)))) else (none)) else (none)) else (varint_PutList.l0 k x0 x1 x11 (wrap64 (x12 + 1))))) else (none)) else (none)) else ((varint_Put.f x0 (x1.length : Int)).bind fun t193 => (varint_PutList.l1 k x1 t193 0 (x1.length : Int) 0))
def varint_PutList.l1 : Nat → List Int → List Int → Int → Int → Int → Option (List Int × Int)
|0,_,_,_,_,_ => none
|k + 1,x1,x7,x8,x42,x43 => if x43 < x42 then (if 0 ≤ x43 then (if x43 < (x1.length : Int) then ((varint_Put.f x7 (wrap64 ((rd x1 x43) - x8))).bind fun t197 => (varint_PutList.l1 k x1 t197 (rd x1 x43) x42 (wrap64 (x43 + 1)))) else (none)) else (none)) else (some (x7,0))
end
def varint_PutList.f (k : Nat) (l0 : List Int) (l1 : List Int) : Option (List Int × Int) := varint_PutList.l0 k l0 l1 (l1.length : Int) 0
theorem varint_PutList.mono_l : ∀ k, (∀ y0 y1 y2 y3, LeO (varint_PutList.l0 k y0 y1 y2 y3) (varint_PutList.l0 (k + 1) y0 y1 y2 y3)) ∧ (∀ y0 y1 y2 y3 y4, LeO (varint_PutList.l1 k y0 y1 y2 y3 y4) (varint_PutList.l1 (k + 1) y0 y1 y2 y3 y4))
|0 => ⟨fun _ _ _ _ r h => by simp [varint_PutList.l0] at h,fun _ _ _ _ _ r h => by simp [varint_PutList.l1] at h⟩
|k + 1 => by
  obtain ⟨ih0,ih1⟩ := varint_PutList.mono_l k
  refine ⟨?_,?_⟩
  ·intro y0 y1 y2 y3
   unfold varint_PutList.l0
   repeat' (with_reducible first|exact ih0 _ _ _ _|exact ih1 _ _ _ _ _|exact LeO.refl _|exact LeO.none _|refine LeO.ite ?_ ?_|refine LeO.bind ?_ (fun _ => ?_))
  ·intro y0 y1 y2 y3 y4
   unfold varint_PutList.l1
   repeat' (with_reducible first|exact ih1 _ _ _ _ _|exact LeO.refl _|exact LeO.none _|refine LeO.ite ?_ ?_|refine LeO.bind ?_ (fun _ => ?_))
theorem varint_PutList.mono : ∀ a0 a1 k, LeO (varint_PutList.f k a0 a1) (varint_PutList.f (k + 1) a0 a1) := by
 intro a0 a1 k
 obtain ⟨ih0,ih1⟩ := varint_PutList.mono_l k
 unfold varint_PutList.f
 repeat' first
  |(with_reducible exact ih0 _ _ _ _)
  |(with_reducible exact ih1 _ _ _ _ _)
  |(with_reducible exact LeO.refl _)
  |(with_reducible exact LeO.none _)
  |(with_reducible refine LeO.ite ?_ ?_)
  |(with_reducible refine LeO.bind ?_ (fun _ => ?_))
  |exact ih0 _ _ _ _
  |exact ih1 _ _ _ _ _
  |exact LeO.none _
  |refine LeO.ite ?_ ?_
  |refine LeO.bind ?_ (fun _ => ?_)
set_option maxHeartbeats 4000000 in
set_option maxRecDepth 100000 in
theorem varint_PutList.calls (k : Nat) (A0 : Option Addr) (c0 : Nat) (l0 : List Int) (A1 : Option Addr) (c1 : Nat) (l1 : List Int) (r1 : List Int) (r2 : Int) (w : World) (hr0 : Kd.C (Kd.int .u8) w A0 l0.length l0) (hc0 : l0.length ≤ c0) (hr1 : Kd.C (Kd.int .i64) w A1 l1.length l1) (hc1 : l1.length ≤ c1) (h : varint_PutList.f k l0 l1 = some (r1, r2)) :
  Calls Tryd.prog 46 #[.slice A0 l0.length c0,.slice A1 l1.length c1] w fun e w' => ∃ v0_ : Value,e = .returned (.tuple #[v0_,.int .i64 r2]) ∧ Kd.R (Kd.int .u8) 5 w' w.heap.size (fun _ => True) v0_ r1 ∧ Below w.heap.size w w' := by
 have HR0 := aK hr0
 have HC0 := aK hc0
 clear hr0 hc0
 have HR1 := aK hr1
 have HC1 := aK hc1
 clear hr1 hc1
 have HB := aK (Below.refl w.heap.size w)
 have H : (varint_PutList.l0 k l0 l1 (l1.length : Int) 0) = some (r1,r2) := h
 clear h
 have H' := aK H
 clear H
 go_enter Tryd.func46,Tryd.ntmps46
 go_wp2
 repeat (go_quiet (fail);try go_wp2)
 go_loopg [12] k (fun kq v12 w' => ∃ (x12_1 : Int),v12 = .int .i64 x12_1 ∧ Aside0 (varint_PutList.l0 kq l0 l1 (l1.length : Int) x12_1 = some (r1,r2)) ∧ Aside0 (kq ≤ k) ∧ Aside0 (Below w.heap.size w w'))
 case atStart => exact ⟨(0),(by first|rfl|(simp;done)|(simp [*];done)),H',⟨Nat.le_refl _⟩,⟨bM HB.out⟩⟩
 case round =>
  clear H'
  try clear p2
  obtain ⟨x12_1,rfl,HA,HK1,HB⟩ := hrel
  cases gk with
 |zero => exact absurd HA.out (by simp [varint_PutList.l0])
 |succ k1 =>
   have H := HA.out
   clear HA
   simp only [varint_PutList.l0] at H
   by_cases c3 : x12_1 < (l1.length : Int)
   ·rw [if_pos c3] at H
    have c3b0 := decide_eq_true c3
    clear c3
    obtain ⟨c4,H⟩ := iS H
    have c4b0 := decide_eq_true c4
    clear c4
    obtain ⟨c5,H⟩ := iS H
    have c5b0 := decide_eq_true c5
    clear c5
    by_cases c6 : (rd l1 x12_1) < 0
    ·rw [if_pos c6] at H
     have c6b0 := decide_eq_true c6
     clear c6
     simp only [Option.some.injEq,Prod.mk.injEq] at H
     obtain ⟨rfl,rfl⟩ := H
     have p190 : 0 ≤ (x12_1 : Int) := of_decide_eq_true (by assumption)
     have q190 : x12_1 < (l1.length : Int) := of_decide_eq_true (by assumption)
     obtain ⟨ad190,e190,hx190_0⟩ := Kd.at_int HR1.out x12_1 p190 q190
     cases e190
     replace hx190_0 := xM HB hx190_0
     replace p190 := eq_true p190
     replace q190 := eq_true q190
     go_wp2
     repeat (go_quiet (fail);try go_wp2)
     go_ret2
     exact ⟨_,by first|rfl|(simp [errW_none,errW_some] <;> rfl)|(simp [*,errW_none,errW_some] <;> rfl),by first|exact Kd.R_nil _ _ _ _ _|exact Kd.N_nil _ _ _ _ _|exact Kd.V_nil _ _ _ _ _|exact Kd.Q_nil _ _ _ _ _|exact Kd.S_nil _ _ _ _ _,bM HB.out⟩
    ·rw [if_neg c6] at H
     have c6b0 := decide_eq_false c6
     clear c6
     by_cases c7 : x12_1 > 0
     ·rw [if_pos c7] at H
      have c7b0 := decide_eq_true c7
      clear c7
      obtain ⟨ji8,hji8⟩ : ∃ j_ : Int,(wrap64 (x12_1 - 1)) = j_ := ⟨_,rfl⟩
      replace H : (if 0 ≤ (ji8) then (if (ji8) < (l1.length : Int) then (if (rd l1 (ji8)) ≥ (rd l1 x12_1) then (some (([] : List Int),1)) else (varint_PutList.l0 k1 l0 l1 (l1.length : Int) (wrap64 (x12_1 + 1)))) else (none)) else (none)) = some (r1,r2) := by first|(rw [hji8] at H;exact H)|(simp only [hji8] at H ⊢;exact H)
      have hji8w : (IntKind.i64.wrap (x12_1 - 1)) = ji8 := (i64_w _).trans hji8
      obtain ⟨c9,H⟩ := iS H
      have c9b0 := decide_eq_true c9
      clear c9
      obtain ⟨c10,H⟩ := iS H
      have c10b0 := decide_eq_true c10
      clear c10
      by_cases c11 : (rd l1 (ji8)) ≥ (rd l1 x12_1)
      ·rw [if_pos c11] at H
       have c11b0 := decide_eq_true c11
       clear c11
       simp only [Option.some.injEq,Prod.mk.injEq] at H
       obtain ⟨rfl,rfl⟩ := H
       have p190 : 0 ≤ (x12_1 : Int) := of_decide_eq_true (by assumption)
       have q190 : x12_1 < (l1.length : Int) := of_decide_eq_true (by assumption)
       obtain ⟨ad190,e190,hx190_0⟩ := Kd.at_int HR1.out x12_1 p190 q190
       cases e190
       replace hx190_0 := xM HB hx190_0
       replace p190 := eq_true p190
       replace q190 := eq_true q190
       have p191 : 0 ≤ ((ji8) : Int) := of_decide_eq_true (by assumption)
       have q191 : (ji8) < (l1.length : Int) := of_decide_eq_true (by assumption)
       obtain ⟨ad191,e191,hx191_0⟩ := Kd.at_int HR1.out (ji8) p191 q191
       obtain rfl : ad190 = ad191 := (by injection e191)
       replace hx191_0 := xM HB hx191_0
       replace p191 := eq_true p191
       replace q191 := eq_true q191
       have p192 : 0 ≤ (x12_1 : Int) := of_decide_eq_true (by assumption)
       have q192 : x12_1 < (l1.length : Int) := of_decide_eq_true (by assumption)
       obtain ⟨ad192,e192,hx192_0⟩ := Kd.at_int HR1.out x12_1 p192 q192
       obtain rfl : ad190 = ad192 := (by injection e192)
       replace hx192_0 := xM HB hx192_0
       replace p192 := eq_true p192
       replace q192 := eq_true q192
       go_wp2
       repeat (go_quiet (fail);try go_wp2)
       go_ret2
       exact ⟨_,by first|rfl|(simp [errW_none,errW_some] <;> rfl)|(simp only [← hji8];first|rfl|(simp [errW_none,errW_some] <;> rfl))|(simp [*,errW_none,errW_some] <;> rfl),by first|exact Kd.R_nil _ _ _ _ _|exact Kd.N_nil _ _ _ _ _|exact Kd.V_nil _ _ _ _ _|exact Kd.Q_nil _ _ _ _ _|exact Kd.S_nil _ _ _ _ _,bM HB.out⟩
      ·rw [if_neg c11] at H
       have c11b0 := decide_eq_false c11
       clear c11
       have H' := aK H
       clear H
       have p190 : 0 ≤ (x12_1 : Int) := of_decide_eq_true (by assumption)
       have q190 : x12_1 < (l1.length : Int) := of_decide_eq_true (by assumption)
       obtain ⟨ad190,e190,hx190_0⟩ := Kd.at_int HR1.out x12_1 p190 q190
       cases e190
       replace hx190_0 := xM HB hx190_0
       replace p190 := eq_true p190
       replace q190 := eq_true q190
       have p191 : 0 ≤ ((ji8) : Int) := of_decide_eq_true (by assumption)
       have q191 : (ji8) < (l1.length : Int) := of_decide_eq_true (by assumption)
       obtain ⟨ad191,e191,hx191_0⟩ := Kd.at_int HR1.out (ji8) p191 q191
       obtain rfl : ad190 = ad191 := (by injection e191)
       replace hx191_0 := xM HB hx191_0
       replace p191 := eq_true p191
       replace q191 := eq_true q191
       have p192 : 0 ≤ (x12_1 : Int) := of_decide_eq_true (by assumption)
       have q192 : x12_1 < (l1.length : Int) := of_decide_eq_true (by assumption)
       obtain ⟨ad192,e192,hx192_0⟩ := Kd.at_int HR1.out x12_1 p192 q192
       obtain rfl : ad190 = ad192 := (by injection e192)
       replace hx192_0 := xM HB hx192_0
       replace p192 := eq_true p192
       replace q192 := eq_true q192
       go_wp2
       repeat (go_quiet (fail);try go_wp2)
       go_roundg k1
       case measure => have := HK1.out;omega
       case rel => exact ⟨(wrap64 (x12_1 + 1)),(by first|rfl|(simp;done)|(simp [*];done)),H',⟨by have := HK1.out;omega⟩,⟨bM HB.out⟩⟩
     ·rw [if_neg c7] at H
      have c7b0 := decide_eq_false c7
      clear c7
      have H' := aK H
      clear H
      have p190 : 0 ≤ (x12_1 : Int) := of_decide_eq_true (by assumption)
      have q190 : x12_1 < (l1.length : Int) := of_decide_eq_true (by assumption)
      obtain ⟨ad190,e190,hx190_0⟩ := Kd.at_int HR1.out x12_1 p190 q190
      cases e190
      replace hx190_0 := xM HB hx190_0
      replace p190 := eq_true p190
      replace q190 := eq_true q190
      go_wp2
      repeat (go_quiet (fail);try go_wp2)
      go_roundg k1
      case measure => have := HK1.out;omega
      case rel => exact ⟨(wrap64 (x12_1 + 1)),(by first|rfl|(simp;done)|(simp [*];done)),H',⟨by have := HK1.out;omega⟩,⟨bM HB.out⟩⟩
   ·rw [if_neg c3] at H
    have c3b0 := decide_eq_false c3
    clear c3
    replace H := Option.bind_eq_some_iff.mp H
    obtain ⟨t193,A120,H⟩ := H
    have A12 := aK A120
    clear A120
    have H' := aK H
    clear H
    go_wp2_with (first|(go_at_call 38;(with_reducible refine (varint_Put.calls _ _ l0 (l1.length : Int) t193 _ ?side1 ?side2 A12.out).mono ?_);(case side1 => exact cM (Kd.C_below HR0.out HB.out));(case side2 => exact HC0.out);rintro e w13 ⟨v194,rfl,ho0,hb⟩;have HO195 := aK (Kd.R_lower ho0 (below_size (bM HB.out)));replace HB := aK (below_step (bM HB.out) hb);(try clear hb);(try clear hk);(try clear ho0)))
    repeat (go_quiet (first|(go_at_call 38;(with_reducible refine (varint_Put.calls _ _ l0 (l1.length : Int) t193 _ ?side1 ?side2 A12.out).mono ?_);(case side1 => exact cM (Kd.C_below HR0.out HB.out));(case side2 => exact HC0.out);rintro e w13 ⟨v194,rfl,ho0,hb⟩;have HO195 := aK (Kd.R_lower ho0 (below_size (bM HB.out)));replace HB := aK (below_step (bM HB.out) hb);(try clear hb);(try clear hk);(try clear ho0)));try go_wp2_with (first|(go_at_call 38;(with_reducible refine (varint_Put.calls _ _ l0 (l1.length : Int) t193 _ ?side1 ?side2 A12.out).mono ?_);(case side1 => exact cM (Kd.C_below HR0.out HB.out));(case side2 => exact HC0.out);rintro e w13 ⟨v194,rfl,ho0,hb⟩;have HO195 := aK (Kd.R_lower ho0 (below_size (bM HB.out)));replace HB := aK (below_step (bM HB.out) hb);(try clear hb);(try clear hk);(try clear ho0))))
    go_loopg [7,8,43] k1 (fun kq v7 v8 v43 w' => ∃ (x7_2 : List Int) (x8_2 : Int) (x43_2 : Int),v8 = .int .i64 x8_2 ∧ v43 = .int .i64 x43_2 ∧ Aside0 (varint_PutList.l1 kq l1 x7_2 x8_2 (l1.length : Int) x43_2 = some (r1,r2)) ∧ Aside0 (kq ≤ k1) ∧ Aside0 (Kd.R (Kd.int .u8) 5 w' w.heap.size (fun _ => True) v7 x7_2) ∧ Aside0 (Below w.heap.size w w'))
    case atStart => exact ⟨(t193),(0),(0),(by first|rfl|(simp;done)|(simp [*];done)),(by first|rfl|(simp;done)|(simp [*];done)),H',⟨Nat.le_refl _⟩,⟨rM HO195.out⟩,⟨bM HB.out⟩⟩
    case round =>
     clear H'
     try clear p1
     try clear q1
     try clear hx1
     try clear p2
     try clear c3
     try clear c3b0
     try clear p6
     try clear hx190_0
     try clear hx191_0
     try clear hx192_0
     try clear p190
     try clear p191
     try clear p192
     try clear p2
     try clear q190
     try clear q191
     try clear q192
     obtain ⟨x7_2,x8_2,x43_2,rfl,rfl,HA,HK2,HO_7,HB⟩ := hrel
     cases gk with
    |zero => exact absurd HA.out (by simp [varint_PutList.l1])
    |succ k2 =>
      have H := HA.out
      clear HA
      simp only [varint_PutList.l1] at H
      by_cases c14 : x43_2 < (l1.length : Int)
      ·rw [if_pos c14] at H
       have c14b0 := decide_eq_true c14
       clear c14
       obtain ⟨c15,H⟩ := iS H
       have c15b0 := decide_eq_true c15
       clear c15
       obtain ⟨c16,H⟩ := iS H
       have c16b0 := decide_eq_true c16
       clear c16
       replace H := Option.bind_eq_some_iff.mp H
       obtain ⟨t197,A170,H⟩ := H
       have A17 := aK A170
       clear A170
       have H' := aK H
       clear H
       have p196 : 0 ≤ (x43_2 : Int) := of_decide_eq_true (by assumption)
       have q196 : x43_2 < (l1.length : Int) := of_decide_eq_true (by assumption)
       obtain ⟨ad196,e196,hx196_0⟩ := Kd.at_int HR1.out x43_2 p196 q196
       cases e196
       replace hx196_0 := xM HB hx196_0
       replace p196 := eq_true p196
       replace q196 := eq_true q196
       obtain ⟨Ao18,co18,eo18⟩ := Kd.R_slice HO_7.out
       subst eo18
       go_wp2_with (first|(go_at_call 38;(with_reducible refine (varint_Put.calls _ _ x7_2 (wrap64 ((rd l1 x43_2) - x8_2)) t197 _ ?side1 ?side2 A17.out).mono ?_);(case side1 => exact cM (Kd.R_reads' HO_7.out).2.2);(case side2 => exact (Kd.R_reads' HO_7.out).2.1);rintro e w19 ⟨v198,rfl,ho0,hb⟩;have HO199 := aK (Kd.R_lower (Kd.R_new' ho0 (Kd.R_lt (rM HO_7.out))) (below_size (bM HB.out)));replace HO_7 := aK (Kd.R_elder' (rM HO_7.out) (Kd.R_base ho0) hb);replace HB := aK (below_step (bM HB.out) hb);(try clear hb);(try clear hk);(try clear ho0);have p200 : 0 ≤ (x43_2 : Int) := of_decide_eq_true (by assumption);have q200 : x43_2 < (l1.length : Int) := of_decide_eq_true (by assumption);obtain ⟨ad200,e200,hx200_0⟩ := Kd.at_int HR1.out x43_2 p200 q200;obtain rfl : ad196 = ad200 := (by injection e200);replace hx200_0 := xM HB hx200_0;replace p200 := eq_true p200;replace q200 := eq_true q200))
       repeat (go_quiet (first|(go_at_call 38;(with_reducible refine (varint_Put.calls _ _ x7_2 (wrap64 ((rd l1 x43_2) - x8_2)) t197 _ ?side1 ?side2 A17.out).mono ?_);(case side1 => exact cM (Kd.R_reads' HO_7.out).2.2);(case side2 => exact (Kd.R_reads' HO_7.out).2.1);rintro e w19 ⟨v198,rfl,ho0,hb⟩;have HO199 := aK (Kd.R_lower (Kd.R_new' ho0 (Kd.R_lt (rM HO_7.out))) (below_size (bM HB.out)));replace HO_7 := aK (Kd.R_elder' (rM HO_7.out) (Kd.R_base ho0) hb);replace HB := aK (below_step (bM HB.out) hb);(try clear hb);(try clear hk);(try clear ho0);have p200 : 0 ≤ (x43_2 : Int) := of_decide_eq_true (by assumption);have q200 : x43_2 < (l1.length : Int) := of_decide_eq_true (by assumption);obtain ⟨ad200,e200,hx200_0⟩ := Kd.at_int HR1.out x43_2 p200 q200;obtain rfl : ad196 = ad200 := (by injection e200);replace hx200_0 := xM HB hx200_0;replace p200 := eq_true p200;replace q200 := eq_true q200));try go_wp2_with (first|(go_at_call 38;(with_reducible refine (varint_Put.calls _ _ x7_2 (wrap64 ((rd l1 x43_2) - x8_2)) t197 _ ?side1 ?side2 A17.out).mono ?_);(case side1 => exact cM (Kd.R_reads' HO_7.out).2.2);(case side2 => exact (Kd.R_reads' HO_7.out).2.1);rintro e w19 ⟨v198,rfl,ho0,hb⟩;have HO199 := aK (Kd.R_lower (Kd.R_new' ho0 (Kd.R_lt (rM HO_7.out))) (below_size (bM HB.out)));replace HO_7 := aK (Kd.R_elder' (rM HO_7.out) (Kd.R_base ho0) hb);replace HB := aK (below_step (bM HB.out) hb);(try clear hb);(try clear hk);(try clear ho0);have p200 : 0 ≤ (x43_2 : Int) := of_decide_eq_true (by assumption);have q200 : x43_2 < (l1.length : Int) := of_decide_eq_true (by assumption);obtain ⟨ad200,e200,hx200_0⟩ := Kd.at_int HR1.out x43_2 p200 q200;obtain rfl : ad196 = ad200 := (by injection e200);replace hx200_0 := xM HB hx200_0;replace p200 := eq_true p200;replace q200 := eq_true q200)))
       go_roundg k2
       case measure => have := HK1.out;have := HK2.out;omega
       case rel => exact ⟨(t197),(rd l1 x43_2),(wrap64 (x43_2 + 1)),(by first|rfl|(simp;done)|(simp [*];done)),(by first|rfl|(simp;done)|(simp [*];done)),H',⟨by have := HK1.out;have := HK2.out;omega⟩,⟨rM (Kd.R_mono HO199.out (fun _ hk => trivial))⟩,⟨bM HB.out⟩⟩
      ·rw [if_neg c14] at H
       have c14b0 := decide_eq_false c14
       clear c14
       simp only [Option.some.injEq,Prod.mk.injEq] at H
       obtain ⟨rfl,rfl⟩ := H
       go_wp2
       repeat (go_quiet (fail);try go_wp2)
       go_ret2
       exact ⟨_,by first|rfl|(simp [errW_none,errW_some] <;> rfl)|(simp [*,errW_none,errW_some] <;> rfl),rM HO_7.out,bM HB.out⟩

/-! ### manifest_list: function 39 -/
def manifest_list.f (k : Nat) (l0 : List Int) (l1 : List Int) : Option (List Int) := (varint_PutList.f k l0 l1).bind fun bt201 => (if bt201.2 = 0 then (some bt201.1) else ((varint_Put.f l0 0).bind fun t205 => (some t205)))
theorem manifest_list.mono : ∀ a0 a1 k, LeO (manifest_list.f k a0 a1) (manifest_list.f (k + 1) a0 a1) := by
 intro a0 a1 k
 unfold manifest_list.f
 repeat' first
  |(with_reducible exact varint_PutList.mono _ _ _)
  |(with_reducible exact LeO.refl _)
  |(with_reducible exact LeO.none _)
  |(with_reducible refine LeO.ite ?_ ?_)
  |(with_reducible refine LeO.bind ?_ (fun _ => ?_))
  |exact varint_PutList.mono _ _ _
  |exact LeO.none _
  |refine LeO.ite ?_ ?_
  |refine LeO.bind ?_ (fun _ => ?_)
set_option maxHeartbeats 4000000 in
set_option maxRecDepth 100000 in
theorem manifest_list.calls (k : Nat) (A0 : Option Addr) (c0 : Nat) (l0 : List Int) (A1 : Option Addr) (c1 : Nat) (l1 : List Int) (r : List Int) (w : World) (hr0 : Kd.C (Kd.int .u8) w A0 l0.length l0) (hc0 : l0.length ≤ c0) (hr1 : Kd.C (Kd.int .i64) w A1 l1.length l1) (hc1 : l1.length ≤ c1) (h : manifest_list.f k l0 l1 = some r) :
  Calls Tryd.prog 39 #[.slice A0 l0.length c0,.slice A1 l1.length c1] w fun e w' => ∃ v0_ : Value,e = .returned (v0_) ∧ Kd.R (Kd.int .u8) 5 w' w.heap.size (fun _ => True) v0_ r ∧ Below w.heap.size w w' := by
 have HR0 := aK hr0
 have HC0 := aK hc0
 clear hr0 hc0
 have HR1 := aK hr1
 have HC1 := aK hc1
 clear hr1 hc1
 have HB := aK (Below.refl w.heap.size w)
 have H : ((varint_PutList.f k l0 l1).bind fun bt201 => (if bt201.2 = 0 then (some bt201.1) else ((varint_Put.f l0 0).bind fun t205 => (some t205)))) = some r := h
 clear h
 replace H := Option.bind_eq_some_iff.mp H
 obtain ⟨⟨t201,t202⟩,A30,H⟩ := H
 replace H : (if t202 = 0 then (some t201) else ((varint_Put.f l0 0).bind fun t205 => (some t205))) = some r := H
 have A3 := aK A30
 clear A30
 by_cases c4 : t202 = 0
 ·rw [if_pos c4] at H
  have c4b0 := beq_iff_eq.mpr c4
  have c4b1 := bne_eq_false_iff_eq.mpr c4
  clear c4
  obtain rfl := Option.some.inj H
  go_enter Tryd.func39,Tryd.ntmps39
  go_wp2_with (first|((with_reducible refine gate_callee (f := 46) rfl ?_);refine goesL_ (some 10) rfl rfl Tryd.func46 (by kernel_rfl) rfl #[.slice A0 l0.length c0,.slice A1 l1.length c1] rfl (by (try simp only [List.map_toArray,List.map_cons,List.map_nil]);first|done|rfl|(simp only [List.length_drop,List.length_take];rfl)) ?_;(with_reducible refine (varint_PutList.calls k _ _ l0 _ _ l1 t201 t202 _ ?side1 ?side2 ?side3 ?side4 A3.out).mono ?_);(case side1 => exact cM HR0.out);(case side2 => exact HC0.out);(case side3 => exact cM HR1.out);(case side4 => exact HC1.out);rintro e w5 ⟨v203,rfl,ho0,hb⟩;refine ⟨_,rfl,?_⟩;have HO204 := aK (Kd.R_lower ho0 (below_size (bM HB.out)));replace HB := aK (below_step (bM HB.out) hb);(try clear hb);(try clear hk);(try clear ho0)))
  go_ret
  exact ⟨_,by first|rfl|(simp [errW_none,errW_some] <;> rfl)|(simp [*,errW_none,errW_some] <;> rfl),rM HO204.out,bM HB.out⟩
 ·rw [if_neg c4] at H
  have c4b0 := beq_eq_false_iff_ne.mpr c4
  have c4b1 := bne_iff_ne.mpr c4
  replace H := Option.bind_eq_some_iff.mp H
  obtain ⟨t205,A60,H⟩ := H
  have A6 := aK A60
  clear A60
  obtain rfl := Option.some.inj H
  go_enter Tryd.func39,Tryd.ntmps39
  go_wp2_with (first|((with_reducible refine gate_callee (f := 46) rfl ?_);refine goesL_ (some 10) rfl rfl Tryd.func46 (by kernel_rfl) rfl #[.slice A0 l0.length c0,.slice A1 l1.length c1] rfl (by (try simp only [List.map_toArray,List.map_cons,List.map_nil]);first|done|rfl|(simp only [List.length_drop,List.length_take];rfl)) ?_;(with_reducible refine (varint_PutList.calls k _ _ l0 _ _ l1 t201 t202 _ ?side1 ?side2 ?side3 ?side4 A3.out).mono ?_);(case side1 => exact cM HR0.out);(case side2 => exact HC0.out);(case side3 => exact cM HR1.out);(case side4 => exact HC1.out);rintro e w7 ⟨v203,rfl,ho0,hb⟩;refine ⟨_,rfl,?_⟩;have HO204 := aK (Kd.R_lower ho0 (below_size (bM HB.out)));replace HB := aK (below_step (bM HB.out) hb);(try clear hb);(try clear hk);(try clear ho0))|((with_reducible refine gate_callee (f := 38) rfl ?_);refine goesL_ (some 16) rfl rfl Tryd.func38 (by kernel_rfl) rfl #[.slice A0 l0.length c0,.int .i64 0] rfl (by (try simp only [List.map_toArray,List.map_cons,List.map_nil]);first|done|rfl|(simp only [List.length_drop,List.length_take];rfl)) ?_;(with_reducible refine (varint_Put.calls _ _ l0 0 t205 _ ?side1 ?side2 A6.out).mono ?_);(case side1 => exact cM (Kd.C_below HR0.out HB.out));(case side2 => exact HC0.out);rintro e w8 ⟨v206,rfl,ho0,hb⟩;refine ⟨_,rfl,?_⟩;have HO207 := aK (Kd.R_lower (Kd.R_new' ho0 (Kd.R_lt (rM HO204.out))) (below_size (bM HB.out)));replace HB := aK (below_step (bM HB.out) hb);(try clear hb);(try clear hk);(try clear ho0)))
  go_ret
  exact ⟨_,by first|rfl|(simp [errW_none,errW_some] <;> rfl)|(simp [*,errW_none,errW_some] <;> rfl),rM (Kd.R_mono HO207.out (fun _ hk => trivial)),bM HB.out⟩

/-! ### varint_PutString: function 40 -/
def varint_PutString.f (l0 : List Int) (a1 : ByteArray) : Option (List Int) := (varint_Put.f l0 (a1.size : Int)).bind fun t208 => (if t208.length + a1.size < 140737488355328 then (some (t208 ++ bytesOf a1)) else (none))
set_option maxHeartbeats 4000000 in
set_option maxRecDepth 100000 in
theorem varint_PutString.calls (A0 : Option Addr) (c0 : Nat) (l0 : List Int) (a1 : ByteArray) (r : List Int) (w : World) (hr0 : Kd.C (Kd.int .u8) w A0 l0.length l0) (hc0 : l0.length ≤ c0) (h : varint_PutString.f l0 a1 = some r) :
  Calls Tryd.prog 40 #[.slice A0 l0.length c0,.string a1] w fun e w' => ∃ v0_ : Value,e = .returned (v0_) ∧ Kd.R (Kd.int .u8) 5 w' w.heap.size (fun _ => True) v0_ r ∧ Below w.heap.size w w' := by
 have HR0 := aK hr0
 have HC0 := aK hc0
 clear hr0 hc0
 have HB := aK (Below.refl w.heap.size w)
 have H : ((varint_Put.f l0 (a1.size : Int)).bind fun t208 => (if t208.length + a1.size < 140737488355328 then (some (t208 ++ bytesOf a1)) else (none))) = some r := h
 clear h
 replace H := Option.bind_eq_some_iff.mp H
 obtain ⟨t208,A30,H⟩ := H
 have A3 := aK A30
 clear A30
 by_cases c4 : t208.length + a1.size < 140737488355328
 ·rw [if_pos c4] at H
  have LMc4 := aK c4
  clear c4
  obtain ⟨y211,hy211⟩ : ∃ y_ : List Int,y_ = (t208 ++ bytesOf a1) := ⟨_,rfl⟩
  replace H : (some y211) = some r := by first|(rw [hy211];with_reducible exact H)|(have H2_ := (Option.bind_some _ _).symm.trans H;rw [hy211];with_reducible exact H2_)|(have H2_ := (Option.bind_some _ _).symm.trans H;with_reducible exact H2_)|with_reducible exact H|(rw [hy211];exact H)|exact H
  have Ny211 := aK hy211
  clear hy211
  obtain rfl := Option.some.inj H
  go_enter Tryd.func40,Tryd.ntmps40
  go_wp2_with (first|((with_reducible refine gate_callee (f := 38) rfl ?_);refine goesL_ (some 8) rfl rfl Tryd.func38 (by kernel_rfl) rfl #[.slice A0 l0.length c0,.int .i64 (a1.size : Int)] rfl (by (try simp only [List.map_toArray,List.map_cons,List.map_nil]);first|done|rfl|(simp only [List.length_drop,List.length_take];rfl)) ?_;(with_reducible refine (varint_Put.calls _ _ l0 (a1.size : Int) t208 _ ?side1 ?side2 A3.out).mono ?_);(case side1 => exact cM HR0.out);(case side2 => exact HC0.out);rintro e w5 ⟨v209,rfl,ho0,hb⟩;refine ⟨_,rfl,?_⟩;have HO210 := aK (Kd.R_lower ho0 (below_size (bM HB.out)));replace HB := aK (below_step (bM HB.out) hb);(try clear hb);(try clear ho0))|(at_builtin;refine print_append_str (w0 := w) w.heap.size rfl (.tmp 8) _ 29 9 5 rfl Tryd.underlying29 Tryd.underlying9 info5 v209 t208 a1 rfl rfl ?aO ?aB ?aS ?aL ?_;(case aB => exact (bM HB.out));(case aO => exact (Kd.own_of_R (rM HO210.out)));(case aS => exact (below_size (bM HB.out)));(case aL => have := LMc4.out;omega);intro v212 w6 ho0 hb hg;have ho := Kd.R_of_own (h1 := fun _ => rfl) (ok := fun _ => True) ho0 (fun _ _ => trivial);clear ho0;have hat := True.intro;rw [← Ny211.out] at ho;change Kd.R (Kd.int .u8) 5 w6 w.heap.size (fun _ => True) v212 y211 at ho;replace HB := aK (hb);have HO213 := aK (ho);clear ho hb hg hat))
  go_ret
  exact ⟨_,by first|rfl|(simp [errW_none,errW_some] <;> rfl)|(simp [*,errW_none,errW_some] <;> rfl),rM HO213.out,bM HB.out⟩
 ·rw [if_neg c4] at H
  exact absurd H (by simp)

/-! ### manifest_Encode: function 19 -/
def manifest_Encode.l0 : Nat → List Int → List ByteArray → Int → Int → Option (List Int)
|0,_,_,_,_ => none
|k + 1,x3,x31,x32,x33 => if x33 < x32 then (if 0 ≤ x33 then (if x33 < (x31.length : Int) then ((varint_PutString.f x3 (rdOf ByteArray.empty x31 x33)).bind fun t234 => (manifest_Encode.l0 k t234 x31 x32 (wrap64 (x33 + 1)))) else (none)) else (none)) else (some x3)
def manifest_Encode.f (k : Nat) (a0_0 : Int) (a0_1 : Int) (a0_2 : Int) (l0_3 : List Int) (l0_4 : List Int) (l0_5 : List ByteArray) : Option (List Int) := (varint_Put.f ([] : List Int) a0_0).bind fun t215 => ((varint_Put.f t215 a0_1).bind fun t218 => ((varint_Put.f t218 a0_2).bind fun t221 => ((manifest_list.f k t221 l0_3).bind fun t224 => ((manifest_list.f k t224 l0_4).bind fun t227 => ((varint_Put.f t227 (l0_5.length : Int)).bind fun t230 => (manifest_Encode.l0 k t230 l0_5 (l0_5.length : Int) 0))))))
theorem manifest_Encode.mono_l : ∀ k, (∀ y0 y1 y2 y3, LeO (manifest_Encode.l0 k y0 y1 y2 y3) (manifest_Encode.l0 (k + 1) y0 y1 y2 y3))
|0 => fun _ _ _ _ r h => by simp [manifest_Encode.l0] at h
|k + 1 => by
  have ih0 := manifest_Encode.mono_l k
  ·intro y0 y1 y2 y3
   unfold manifest_Encode.l0
   repeat' (with_reducible first|exact ih0 _ _ _ _|exact LeO.refl _|exact LeO.none _|refine LeO.ite ?_ ?_|refine LeO.bind ?_ (fun _ => ?_))
theorem manifest_Encode.mono : ∀ a0 a1 a2 a3 a4 a5 k, LeO (manifest_Encode.f k a0 a1 a2 a3 a4 a5) (manifest_Encode.f (k + 1) a0 a1 a2 a3 a4 a5) := by
 intro a0 a1 a2 a3 a4 a5 k
 have ih0 := manifest_Encode.mono_l k
 unfold manifest_Encode.f
 repeat' first
  |(with_reducible exact ih0 _ _ _ _)
  |(with_reducible exact manifest_list.mono _ _ _)
  |(with_reducible exact LeO.refl _)
  |(with_reducible exact LeO.none _)
  |(with_reducible refine LeO.ite ?_ ?_)
  |(with_reducible refine LeO.bind ?_ (fun _ => ?_))
  |exact ih0 _ _ _ _
  |exact manifest_list.mono _ _ _
  |exact LeO.none _
  |refine LeO.ite ?_ ?_
  |refine LeO.bind ?_ (fun _ => ?_)
set_option maxHeartbeats 4000000 in
set_option maxRecDepth 100000 in
theorem manifest_Encode.calls (k : Nat) (a0_0 : Int) (a0_1 : Int) (a0_2 : Int) (A0_3 : Option Addr) (c0_3 : Nat) (l0_3 : List Int) (A0_4 : Option Addr) (c0_4 : Nat) (l0_4 : List Int) (A0_5 : Option Addr) (c0_5 : Nat) (l0_5 : List ByteArray) (r : List Int) (w : World) (hr0_3 : Kd.C (Kd.int .i64) w A0_3 l0_3.length l0_3) (hc0_3 : l0_3.length ≤ c0_3) (hr0_4 : Kd.C (Kd.int .i64) w A0_4 l0_4.length l0_4) (hc0_4 : l0_4.length ≤ c0_4) (hr0_5 : Kd.C Kd.string w A0_5 l0_5.length l0_5) (hc0_5 : l0_5.length ≤ c0_5) (h : manifest_Encode.f k a0_0 a0_1 a0_2 l0_3 l0_4 l0_5 = some r) :
  Calls Tryd.prog 19 #[.agg #[.int .i64 a0_0,.int .i64 a0_1,.int .i64 a0_2,.slice A0_3 l0_3.length c0_3,.slice A0_4 l0_4.length c0_4,.slice A0_5 l0_5.length c0_5]] w fun e w' => ∃ v0_ : Value,e = .returned (v0_) ∧ Kd.R (Kd.int .u8) 5 w' w.heap.size (fun _ => True) v0_ r ∧ Below w.heap.size w w' := by
 have hu37 := Tryd.underlying37
 have HR0_3 := aK hr0_3
 have HC0_3 := aK hc0_3
 clear hr0_3 hc0_3
 have HR0_4 := aK hr0_4
 have HC0_4 := aK hc0_4
 clear hr0_4 hc0_4
 have HR0_5 := aK hr0_5
 have HC0_5 := aK hc0_5
 clear hr0_5 hc0_5
 have HB := aK (Below.refl w.heap.size w)
 unfold manifest_Encode.f at h
 have H := h
 clear h
 replace H := Option.bind_eq_some_iff.mp H
 obtain ⟨t215,A20,H⟩ := H
 have A2 := aK A20
 clear A20
 replace H := Option.bind_eq_some_iff.mp H
 obtain ⟨t218,A30,H⟩ := H
 have A3 := aK A30
 clear A30
 replace H := Option.bind_eq_some_iff.mp H
 obtain ⟨t221,A40,H⟩ := H
 have A4 := aK A40
 clear A40
 replace H := Option.bind_eq_some_iff.mp H
 obtain ⟨t224,A50,H⟩ := H
 have A5 := aK A50
 clear A50
 replace H := Option.bind_eq_some_iff.mp H
 obtain ⟨t227,A60,H⟩ := H
 have A6 := aK A60
 clear A60
 replace H := Option.bind_eq_some_iff.mp H
 obtain ⟨t230,A70,H⟩ := H
 have A7 := aK A70
 clear A70
 have H' := aK H
 clear H
 go_enter Tryd.func19,Tryd.ntmps19
 go_wp2_with (first|((with_reducible refine gate_dst (N := 1) rfl ?_);refine box_event ?hg (N := 1) ?hd (cs := #[.int .i64 a0_0,.int .i64 a0_1,.int .i64 a0_2,.slice A0_3 l0_3.length c0_3,.slice A0_4 l0_4.length c0_4,.slice A0_5 l0_5.length c0_5]) (t := 37) ?hr ?_;(case hd => rfl);(case hg => rfl);(case hr => first|(go_simp;done)|(go_simp;rfl));intro gb214 hg w8 hbox hb;have BK214 := aK (hbox);have GW214 := aK ((by rw [hg];exact (below_size (bM HB.out)) : w.heap.size ≤ gb214));have GJ214 := Ge.mk GW214.out;have GE214 := aK ((by rw [hg];exact (below_size (bM HB.out)) : w.heap.size ≤ gb214));have GI214 := Ge.mk GE214.out;replace HB := aK (below_step (bM HB.out) hb);clear hb hbox hg;obtain ⟨hcz9_0,hcz9_1,hcz9_2,hcz9_3,hcz9_4,hcz9_5,hfz9_0,hfz9_1,hfz9_2,hfz9_3,hfz9_4,hfz9_5⟩ := bk6_ BK214.out)|(go_at_call 38;refine calls_of_args (args' := #[.slice none ([] : List Int).length 0,.int .i64 a0_0]) (by first|with_reducible rfl|(simp only [List.length_nil];done)|(simp only [List.length_nil];with_reducible rfl)) ?_;(with_reducible refine (varint_Put.calls _ _ ([] : List Int) a0_0 t215 _ ?side1 ?side2 A2.out).mono ?_);(case side1 => exact Kd.C_nil _ _);(case side2 => exact Nat.le_refl _);rintro e w10 ⟨v216,rfl,ho0,hb⟩;have HO217 := aK (Kd.R_lower ho0 (below_size (bG HB.out)));replace BK214 := aK (blk_below (kM BK214.out) hb);replace HB := aK (below_step (bG HB.out) hb);(try clear hb);(try clear hk);(try clear ho0);obtain ⟨hcz11_0,hcz11_1,hcz11_2,hcz11_3,hcz11_4,hcz11_5,hfz11_0,hfz11_1,hfz11_2,hfz11_3,hfz11_4,hfz11_5⟩ := bk6_ BK214.out;obtain ⟨Ao12,co12,eo12⟩ := Kd.R_slice HO217.out;subst eo12)|((with_reducible refine gate_callee (f := 38) rfl ?_);refine goesL_ (some 12) rfl rfl Tryd.func38 (by kernel_rfl) rfl #[.slice Ao12 t215.length co12,.int .i64 a0_1] rfl (by (try simp only [List.map_toArray,List.map_cons,List.map_nil]);first|done|rfl|(simp only [List.length_drop,List.length_take];rfl)) ?_;(with_reducible refine (varint_Put.calls _ _ t215 a0_1 t218 _ ?side1 ?side2 A3.out).mono ?_);(case side1 => exact cM (Kd.R_reads' HO217.out).2.2);(case side2 => exact (Kd.R_reads' HO217.out).2.1);rintro e w13 ⟨v219,rfl,ho0,hb⟩;refine ⟨_,rfl,?_⟩;have HO220 := aK (Kd.R_lower (Kd.R_new' ho0 (Kd.R_lt (rM HO217.out))) (below_size (bG HB.out)));replace HO217 := aK (Kd.R_elder' (rM HO217.out) (Kd.R_base ho0) hb);replace BK214 := aK (blk_below (kM BK214.out) hb);replace HB := aK (below_step (bG HB.out) hb);(try clear hb);(try clear hk);(try clear ho0);obtain ⟨hcz14_0,hcz14_1,hcz14_2,hcz14_3,hcz14_4,hcz14_5,hfz14_0,hfz14_1,hfz14_2,hfz14_3,hfz14_4,hfz14_5⟩ := bk6_ BK214.out;obtain ⟨Ao15,co15,eo15⟩ := Kd.R_slice HO220.out;subst eo15)|((with_reducible refine gate_callee (f := 38) rfl ?_);refine goesL_ (some 16) rfl rfl Tryd.func38 (by kernel_rfl) rfl #[.slice Ao15 t218.length co15,.int .i64 a0_2] rfl (by (try simp only [List.map_toArray,List.map_cons,List.map_nil]);first|done|rfl|(simp only [List.length_drop,List.length_take];rfl)) ?_;(with_reducible refine (varint_Put.calls _ _ t218 a0_2 t221 _ ?side1 ?side2 A4.out).mono ?_);(case side1 => exact cM (Kd.R_reads' HO220.out).2.2);(case side2 => exact (Kd.R_reads' HO220.out).2.1);rintro e w16 ⟨v222,rfl,ho0,hb⟩;refine ⟨_,rfl,?_⟩;have HO223 := aK (Kd.R_lower (Kd.R_new' (Kd.R_new' ho0 (Kd.R_lt (rM HO217.out))) (Kd.R_lt (rM HO220.out))) (below_size (bG HB.out)));replace HO217 := aK (Kd.R_elder' (rM HO217.out) (Kd.R_base ho0) hb);replace HO220 := aK (Kd.R_elder' (rM HO220.out) (Kd.R_base ho0) hb);replace BK214 := aK (blk_below (kM BK214.out) hb);replace HB := aK (below_step (bG HB.out) hb);(try clear hb);(try clear hk);(try clear ho0);obtain ⟨hcz17_0,hcz17_1,hcz17_2,hcz17_3,hcz17_4,hcz17_5,hfz17_0,hfz17_1,hfz17_2,hfz17_3,hfz17_4,hfz17_5⟩ := bk6_ BK214.out;obtain ⟨Ao18,co18,eo18⟩ := Kd.R_slice HO223.out;subst eo18)|((with_reducible refine gate_callee (f := 39) rfl ?_);refine goesL_ (some 20) rfl rfl Tryd.func39 (by kernel_rfl) rfl #[.slice Ao18 t221.length co18,.slice A0_3 l0_3.length c0_3] rfl (by (try simp only [List.map_toArray,List.map_cons,List.map_nil]);first|done|rfl|(simp only [List.length_drop,List.length_take];rfl)) ?_;(with_reducible refine (manifest_list.calls k _ _ t221 _ _ l0_3 t224 _ ?side1 ?side2 ?side3 ?side4 A5.out).mono ?_);(case side1 => exact cM (Kd.R_reads' HO223.out).2.2);(case side2 => exact (Kd.R_reads' HO223.out).2.1);(case side3 => exact cM (Kd.C_below HR0_3.out HB.out));(case side4 => exact HC0_3.out);rintro e w19 ⟨v225,rfl,ho0,hb⟩;refine ⟨_,rfl,?_⟩;have HO226 := aK (Kd.R_lower (Kd.R_new' (Kd.R_new' (Kd.R_new' ho0 (Kd.R_lt (rM HO217.out))) (Kd.R_lt (rM HO220.out))) (Kd.R_lt (rM HO223.out))) (below_size (bG HB.out)));replace HO217 := aK (Kd.R_elder' (rM HO217.out) (Kd.R_base ho0) hb);replace HO220 := aK (Kd.R_elder' (rM HO220.out) (Kd.R_base ho0) hb);replace HO223 := aK (Kd.R_elder' (rM HO223.out) (Kd.R_base ho0) hb);replace BK214 := aK (blk_below (kM BK214.out) hb);replace HB := aK (below_step (bG HB.out) hb);(try clear hb);(try clear hk);(try clear ho0);obtain ⟨hcz20_0,hcz20_1,hcz20_2,hcz20_3,hcz20_4,hcz20_5,hfz20_0,hfz20_1,hfz20_2,hfz20_3,hfz20_4,hfz20_5⟩ := bk6_ BK214.out;obtain ⟨Ao21,co21,eo21⟩ := Kd.R_slice HO226.out;subst eo21)|((with_reducible refine gate_callee (f := 39) rfl ?_);refine goesL_ (some 24) rfl rfl Tryd.func39 (by kernel_rfl) rfl #[.slice Ao21 t224.length co21,.slice A0_4 l0_4.length c0_4] rfl (by (try simp only [List.map_toArray,List.map_cons,List.map_nil]);first|done|rfl|(simp only [List.length_drop,List.length_take];rfl)) ?_;(with_reducible refine (manifest_list.calls k _ _ t224 _ _ l0_4 t227 _ ?side1 ?side2 ?side3 ?side4 A6.out).mono ?_);(case side1 => exact cM (Kd.R_reads' HO226.out).2.2);(case side2 => exact (Kd.R_reads' HO226.out).2.1);(case side3 => exact cM (Kd.C_below HR0_4.out HB.out));(case side4 => exact HC0_4.out);rintro e w22 ⟨v228,rfl,ho0,hb⟩;refine ⟨_,rfl,?_⟩;have HO229 := aK (Kd.R_lower (Kd.R_new' (Kd.R_new' (Kd.R_new' (Kd.R_new' ho0 (Kd.R_lt (rM HO217.out))) (Kd.R_lt (rM HO220.out))) (Kd.R_lt (rM HO223.out))) (Kd.R_lt (rM HO226.out))) (below_size (bG HB.out)));replace HO217 := aK (Kd.R_elder' (rM HO217.out) (Kd.R_base ho0) hb);replace HO220 := aK (Kd.R_elder' (rM HO220.out) (Kd.R_base ho0) hb);replace HO223 := aK (Kd.R_elder' (rM HO223.out) (Kd.R_base ho0) hb);replace HO226 := aK (Kd.R_elder' (rM HO226.out) (Kd.R_base ho0) hb);replace BK214 := aK (blk_below (kM BK214.out) hb);replace HB := aK (below_step (bG HB.out) hb);(try clear hb);(try clear hk);(try clear ho0);obtain ⟨hcz23_0,hcz23_1,hcz23_2,hcz23_3,hcz23_4,hcz23_5,hfz23_0,hfz23_1,hfz23_2,hfz23_3,hfz23_4,hfz23_5⟩ := bk6_ BK214.out;obtain ⟨Ao24,co24,eo24⟩ := Kd.R_slice HO229.out;subst eo24)|((with_reducible refine gate_callee (f := 38) rfl ?_);refine goesL_ (some 29) rfl rfl Tryd.func38 (by kernel_rfl) rfl #[.slice Ao24 t227.length co24,.int .i64 (l0_5.length : Int)] rfl (by (try simp only [List.map_toArray,List.map_cons,List.map_nil]);first|done|rfl|(simp only [List.length_drop,List.length_take];rfl)) ?_;(with_reducible refine (varint_Put.calls _ _ t227 (l0_5.length : Int) t230 _ ?side1 ?side2 A7.out).mono ?_);(case side1 => exact cM (Kd.R_reads' HO229.out).2.2);(case side2 => exact (Kd.R_reads' HO229.out).2.1);rintro e w25 ⟨v231,rfl,ho0,hb⟩;refine ⟨_,rfl,?_⟩;have HO232 := aK (Kd.R_lower (Kd.R_new' (Kd.R_new' (Kd.R_new' (Kd.R_new' (Kd.R_new' ho0 (Kd.R_lt (rM HO217.out))) (Kd.R_lt (rM HO220.out))) (Kd.R_lt (rM HO223.out))) (Kd.R_lt (rM HO226.out))) (Kd.R_lt (rM HO229.out))) (below_size (bG HB.out)));replace BK214 := aK (blk_below (kM BK214.out) hb);replace HB := aK (below_step (bG HB.out) hb);(try clear hb);(try clear hk);(try clear ho0);obtain ⟨hcz26_0,hcz26_1,hcz26_2,hcz26_3,hcz26_4,hcz26_5,hfz26_0,hfz26_1,hfz26_2,hfz26_3,hfz26_4,hfz26_5⟩ := bk6_ BK214.out))
 go_loopg [3,33] k (fun kq v3 v33 w' => ∃ (x3_1 : List Int) (x33_1 : Int),v33 = .int .i64 x33_1 ∧ Aside0 (manifest_Encode.l0 kq x3_1 l0_5 (l0_5.length : Int) x33_1 = some r) ∧ Aside0 (kq ≤ k) ∧ Aside0 (Kd.R (Kd.int .u8) 5 w' w.heap.size (fun _ => True) v3 x3_1) ∧ Aside0 (w'.heap[gb214]? = some (.cells #[.int .i64 a0_0,.int .i64 a0_1,.int .i64 a0_2,(.slice A0_3 l0_3.length c0_3),(.slice A0_4 l0_4.length c0_4),(.slice A0_5 l0_5.length c0_5)] 37 (0,0))) ∧ Aside0 (Below w.heap.size w w'))
 case atStart => exact ⟨(t230),(0),(by first|rfl|(simp;done)|(simp [*];done)),H',⟨Nat.le_refl _⟩,⟨rM (Kd.R_mono HO232.out (fun _ hk => trivial))⟩,⟨kM BK214.out⟩,⟨bG HB.out⟩⟩
 case round =>
  clear H'
  try clear p2
  try clear hcz11_0
  try clear hcz11_1
  try clear hcz11_2
  try clear hcz11_3
  try clear hcz11_4
  try clear hcz11_5
  try clear hcz14_0
  try clear hcz14_1
  try clear hcz14_2
  try clear hcz14_3
  try clear hcz14_4
  try clear hcz14_5
  try clear hcz17_0
  try clear hcz17_1
  try clear hcz17_2
  try clear hcz17_3
  try clear hcz17_4
  try clear hcz17_5
  try clear hcz20_0
  try clear hcz20_1
  try clear hcz20_2
  try clear hcz20_3
  try clear hcz20_4
  try clear hcz20_5
  try clear hcz23_0
  try clear hcz23_1
  try clear hcz23_2
  try clear hcz23_3
  try clear hcz23_4
  try clear hcz23_5
  try clear hcz26_0
  try clear hcz26_1
  try clear hcz26_2
  try clear hcz26_3
  try clear hcz26_4
  try clear hcz26_5
  try clear hcz9_0
  try clear hcz9_1
  try clear hcz9_2
  try clear hcz9_3
  try clear hcz9_4
  try clear hcz9_5
  try clear hfz11_0
  try clear hfz11_1
  try clear hfz11_2
  try clear hfz11_3
  try clear hfz11_4
  try clear hfz11_5
  try clear hfz14_0
  try clear hfz14_1
  try clear hfz14_2
  try clear hfz14_3
  try clear hfz14_4
  try clear hfz14_5
  try clear hfz17_0
  try clear hfz17_1
  try clear hfz17_2
  try clear hfz17_3
  try clear hfz17_4
  try clear hfz17_5
  try clear hfz20_0
  try clear hfz20_1
  try clear hfz20_2
  try clear hfz20_3
  try clear hfz20_4
  try clear hfz20_5
  try clear hfz23_0
  try clear hfz23_1
  try clear hfz23_2
  try clear hfz23_3
  try clear hfz23_4
  try clear hfz23_5
  try clear hfz26_0
  try clear hfz26_1
  try clear hfz26_2
  try clear hfz26_3
  try clear hfz26_4
  try clear hfz26_5
  try clear hfz9_0
  try clear hfz9_1
  try clear hfz9_2
  try clear hfz9_3
  try clear hfz9_4
  try clear hfz9_5
  obtain ⟨x3_1,x33_1,rfl,HA,HK1,HO_3,BK214,HB⟩ := hrel
  cases gk with
 |zero => exact absurd HA.out (by simp [manifest_Encode.l0])
 |succ k1 =>
   have H := HA.out
   clear HA
   simp only [manifest_Encode.l0] at H
   by_cases c27 : x33_1 < (l0_5.length : Int)
   ·rw [if_pos c27] at H
    have c27b0 := decide_eq_true c27
    clear c27
    obtain ⟨c28,H⟩ := iS H
    have c28b0 := decide_eq_true c28
    clear c28
    obtain ⟨c29,H⟩ := iS H
    have c29b0 := decide_eq_true c29
    clear c29
    replace H := Option.bind_eq_some_iff.mp H
    obtain ⟨t234,A300,H⟩ := H
    have A30 := aK A300
    clear A300
    have H' := aK H
    clear H
    have p233 : 0 ≤ (x33_1 : Int) := of_decide_eq_true (by assumption)
    have q233 : x33_1 < (l0_5.length : Int) := of_decide_eq_true (by assumption)
    obtain ⟨ad233,e233,hx233_0⟩ := Kd.at_string HR0_5.out x33_1 p233 q233
    cases e233
    replace hx233_0 := xM HB hx233_0
    replace p233 := eq_true p233
    replace q233 := eq_true q233
    obtain ⟨Ao31,co31,eo31⟩ := Kd.R_slice HO_3.out
    subst eo31
    go_wp2_with (first|((with_reducible refine gate_callee (f := 40) rfl ?_);refine goesL_ (some 39) rfl rfl Tryd.func40 (by kernel_rfl) rfl #[.slice Ao31 x3_1.length co31,.string (rdOf ByteArray.empty l0_5 x33_1)] rfl (by (try simp only [List.map_toArray,List.map_cons,List.map_nil]);first|done|rfl|(simp only [List.length_drop,List.length_take];rfl)) ?_;(with_reducible refine (varint_PutString.calls _ _ x3_1 (rdOf ByteArray.empty l0_5 x33_1) t234 _ ?side1 ?side2 A30.out).mono ?_);(case side1 => exact cM (Kd.R_reads' HO_3.out).2.2);(case side2 => exact (Kd.R_reads' HO_3.out).2.1);rintro e w32 ⟨v235,rfl,ho0,hb⟩;refine ⟨_,rfl,?_⟩;have HO236 := aK (Kd.R_lower (Kd.R_new' ho0 (Kd.R_lt (rM HO_3.out))) (below_size (bG HB.out)));replace HO_3 := aK (Kd.R_elder' (rM HO_3.out) (Kd.R_base ho0) hb);replace BK214 := aK (blk_below (kM BK214.out) hb);replace HB := aK (below_step (bG HB.out) hb);(try clear hb);(try clear hk);(try clear ho0)))
    go_roundg k1
    case measure => have := HK1.out;omega
    case rel => exact ⟨(t234),(wrap64 (x33_1 + 1)),(by first|rfl|(simp;done)|(simp [*];done)),H',⟨by have := HK1.out;omega⟩,⟨rM (Kd.R_mono HO236.out (fun _ hk => trivial))⟩,⟨kM BK214.out⟩,⟨bG HB.out⟩⟩
   ·rw [if_neg c27] at H
    have c27b0 := decide_eq_false c27
    clear c27
    obtain rfl := Option.some.inj H
    go_wp2
    go_ret
    exact ⟨_,by first|rfl|(simp [errW_none,errW_some] <;> rfl)|(simp [*,errW_none,errW_some] <;> rfl),rM HO_3.out,bG HB.out⟩

/-! ### checksum_Extend: function 51 (by hand) -/
def tabZ (i : Int) : Int := tabV i.toNat
theorem tabA_get (i : Int) (h0 : 0 ≤ i) (h1 : i < 16) : (tabA 16)[i.toNat]? = some (.int .u32 (tabZ i)) := by
  have h : i.toNat < 16 := by omega
  simp [tabA, tabZ, h]
theorem and15 (x : Int) : 0 ≤ Go.bits .and .u32 x 15 ∧ Go.bits .and .u32 x 15 < 16 := by
  refine ⟨bits_nonneg_u32 _ _ _, ?_⟩
  unfold Go.bits
  have h : (BitVec.ofInt IntKind.u32.bits x &&& BitVec.ofInt IntKind.u32.bits 15).toNat ≤ 15 := by
    rw [BitVec.toNat_and]
    exact Nat.le_trans Nat.and_le_right (by decide)
  show IntKind.u32.wrap ((BitVec.ofInt IntKind.u32.bits x &&& BitVec.ofInt IntKind.u32.bits 15).toNat : Int) < 16
  rw [IntKind.wrap_u32]
  omega
def crcHalf (x : Int) : Int := Go.bits .xor .u32 (x / 16) (tabZ (Go.bits .and .u32 x 15))
def crcIn (x c : Int) : Int := crcHalf (crcHalf (Go.bits .xor .u32 x (c % 4294967296)))
def checksum_Extend.f (a0 : Int) (l1 : List Int) : Option Int := some (Go.bits .xor .u32 4294967295 (l1.foldl crcIn (Go.bits .xor .u32 4294967295 a0)))
theorem foldl_take (l : List Int) (z : Int) (i : Nat) (h : i < l.length) : (l.take (i + 1)).foldl crcIn z = crcIn ((l.take i).foldl crcIn z) (rd l (i : Int)) := by
  rw [List.take_succ_eq_append_getElem h, List.foldl_append]
  simp [rd, List.getD_eq_getElem?_getD, List.getElem?_eq_getElem h]
set_option maxHeartbeats 4000000 in
set_option maxRecDepth 100000 in
theorem checksum_Extend.calls (a0 : Int) (A1 : Option Addr) (c1 : Nat) (l1 : List Int) (r : Int) (w : World) (hr1 : Kd.C (Kd.int .u8) w A1 l1.length l1) (hc1 : l1.length ≤ c1) (h : checksum_Extend.f a0 l1 = some r) :
    Calls Tryd.prog 51 #[.int .u32 a0, .slice A1 l1.length c1] w fun e w' => e = .returned (.int .u32 r) ∧ Below w.heap.size w w' := by
  obtain rfl := Option.some.inj h
  clear h
  have HR := aK hr1
  clear hr1
  have hm : (l1.length : Int) ≤ 9223372036854775807 := by have := HR.out.2.1; omega
  have hsz : (Tryd.prog.info? 89).map (·.size) = some (tabA 16).size := by rw [tabA_size]; kernel_rfl
  have HZ := aK hsz
  clear hsz
  have hsg : IntKind.u32.signed = false := rfl
  have hmx : IntKind.u32.max = 4294967295 := rfl
  go_enter Tryd.func51, Tryd.ntmps51
  go_wp2_with fail
  refine (checksum_table.calls _).mono ?_
  rintro e w1 ⟨rfl, hb⟩
  have HB := aK (hb.alloc hb.size (.cells #[Value.int IntKind.u32 0, Value.int IntKind.u32 0, Value.int IntKind.u32 0, Value.int IntKind.u32 0, Value.int IntKind.u32 0, Value.int IntKind.u32 0, Value.int IntKind.u32 0, Value.int IntKind.u32 0, Value.int IntKind.u32 0, Value.int IntKind.u32 0, Value.int IntKind.u32 0, Value.int IntKind.u32 0, Value.int IntKind.u32 0, Value.int IntKind.u32 0, Value.int IntKind.u32 0, Value.int IntKind.u32 0] 89))
  have H5 := aK (heap_alloc_new w1 (.cells #[Value.int IntKind.u32 0, Value.int IntKind.u32 0, Value.int IntKind.u32 0, Value.int IntKind.u32 0, Value.int IntKind.u32 0, Value.int IntKind.u32 0, Value.int IntKind.u32 0, Value.int IntKind.u32 0, Value.int IntKind.u32 0, Value.int IntKind.u32 0, Value.int IntKind.u32 0, Value.int IntKind.u32 0, Value.int IntKind.u32 0, Value.int IntKind.u32 0, Value.int IntKind.u32 0, Value.int IntKind.u32 0] 89))
  have HS := aK hb.size
  clear hb
  go_wp2_with (first | (refine wpList_store_row rfl 89 (.tmp 5) (.tmp 9) rfl w1.heap.size (tabA 16) rfl rfl 89 _ H5.out HZ.out (by rw [tabA_size]; rfl) tabA_one ?_))
  have H6 := aK (setRow_heap _ _ _ (tabA 16) _ _ H5.out)
  have HB2 := aK (show Below w.heap.size w ((w1.alloc (.cells #[Value.int IntKind.u32 0, Value.int IntKind.u32 0, Value.int IntKind.u32 0, Value.int IntKind.u32 0, Value.int IntKind.u32 0, Value.int IntKind.u32 0, Value.int IntKind.u32 0, Value.int IntKind.u32 0, Value.int IntKind.u32 0, Value.int IntKind.u32 0, Value.int IntKind.u32 0, Value.int IntKind.u32 0, Value.int IntKind.u32 0, Value.int IntKind.u32 0, Value.int IntKind.u32 0, Value.int IntKind.u32 0] 89)).setRow w1.heap.size (tabA 16)) from ⟨HB.out.os, HB.out.tape, HB.out.output, by simpa using HB.out.size, fun i hi => (setRow_other _ _ _ _ (Nat.ne_of_lt (Nat.lt_of_lt_of_le hi HS.out))).trans (HB.out.block i hi)⟩)
  generalize (w1.alloc (.cells #[Value.int IntKind.u32 0, Value.int IntKind.u32 0, Value.int IntKind.u32 0, Value.int IntKind.u32 0, Value.int IntKind.u32 0, Value.int IntKind.u32 0, Value.int IntKind.u32 0, Value.int IntKind.u32 0, Value.int IntKind.u32 0, Value.int IntKind.u32 0, Value.int IntKind.u32 0, Value.int IntKind.u32 0, Value.int IntKind.u32 0, Value.int IntKind.u32 0, Value.int IntKind.u32 0, Value.int IntKind.u32 0] 89)).setRow w1.heap.size (tabA 16) = W at H6 HB2 ⊢
  generalize w1.heap.size = g at H6 ⊢
  clear H5 HB
  go_loop [6, 14] (fun x j => ∃ n : Nat, x = .int .u32 ((l1.take n).foldl crcIn (Go.bits .xor .u32 4294967295 a0)) ∧ j = .int .i64 n ∧ Aside0 (n ≤ l1.length)) (fun _ j => l1.length - (intOf j).toNat)
  case atStart =>
    exact ⟨0, rfl, rfl, ⟨Nat.zero_le _⟩⟩
  case round =>
    obtain ⟨n, rfl, rfl, hn⟩ := hrel
    by_cases hlt : (n : Int) < (l1.length : Int)
    · have hd : decide ((n : Int) < (l1.length : Int)) = true := decide_eq_true hlt
      have hd2 : decide (n < l1.length) = true := decide_eq_true (by omega)
      have hn0 : 0 ≤ (n : Int) := by omega
      have hfold := foldl_take l1 (Go.bits .xor .u32 4294967295 a0) n (by omega)
      have HF := aK hfold
      clear hfold
      generalize hx : (l1.take n).foldl crcIn (Go.bits .xor .u32 4294967295 a0) = x at HF ⊢
      clear hx
      obtain ⟨ad, e1, hc0⟩ := Kd.at_int (Kd.C_below HR.out HB2.out) (n : Int) hn0 (by omega)
      cases e1
      rw [Int.toNat_natCast] at hc0
      have b1 := and15 (Go.bits .xor .u32 x (rd l1 n % 4294967296))
      have b2 := and15 (crcHalf (Go.bits .xor .u32 x (rd l1 n % 4294967296)))
      have ht1 : W.cell? ⟨g, (Go.bits .and .u32 (Go.bits .xor .u32 x (rd l1 n % 4294967296)) 15).toNat, none⟩ = some (.int .u32 (tabZ (Go.bits .and .u32 (Go.bits .xor .u32 x (rd l1 n % 4294967296)) 15))) := by
        rw [blk_cell H6.out]; exact tabA_get _ b1.1 b1.2
      have ht2 : W.cell? ⟨g, (Go.bits .and .u32 (crcHalf (Go.bits .xor .u32 x (rd l1 n % 4294967296))) 15).toNat, none⟩ = some (.int .u32 (tabZ (Go.bits .and .u32 (crcHalf (Go.bits .xor .u32 x (rd l1 n % 4294967296))) 15))) := by
        rw [blk_cell H6.out]; exact tabA_get _ b2.1 b2.2
      have hp1 := bits_nonneg_u32 .xor x (rd l1 n % 4294967296)
      unfold crcHalf at ht2 b2
      go_wp2
      go_round
      case rel => exact ⟨n + 1, by rw [HF.out]; rfl, by go_num, ⟨by omega⟩⟩
      case measure => simp [intOf]; omega
    · have hd : decide ((n : Int) < (l1.length : Int)) = false := decide_eq_false hlt
      have hd2 : decide (n < l1.length) = false := decide_eq_false (by omega)
      obtain rfl : n = l1.length := by have := hn.out; omega
      rw [List.take_length]
      go_wp2
      go_ret
      exact ⟨rfl, HB2.out⟩

end Go.Proofs.YtmgliocboeifdaaDoor.T
