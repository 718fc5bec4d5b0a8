import Derived.Test.YtmgliocboeifdaaDoorKx0
import Derived.Test.YtmgliocboeifdaaDoorKx1
namespace Go.Proofs.YtmgliocboeifdaaDoor.K
open Go.RowKit Go.Proofs.YtmgliocboeifdaaDoorW.PrintWords Go.Proofs.YtmgliocboeifdaaDoorW.PrintLast Go.Proofs.YtmgliocboeifdaaDoorW.PrintMore
set_option maxHeartbeats 4000000
set_option maxRecDepth 100000
attribute [local go_sem] max2_int min2_int max_two min_two max_three min_three max_four min_four
set_option linter.unusedVariables false
set_option linter.unusedSimpArgs false

/-! ### varint_Put: function 38 (by hand) -/
/-- The digits to the base 128, the lowest one first. -/
def enc7 : Nat → Int → List Int
  | 0, _ => []
  | k + 1, x => if x ≥ 128 then (x % 128 + 128) :: enc7 k (x / 128) else [x]
def varint_Put.f (l0 : List Int) (a1 : Int) : Option (List Int) := if l0.length + 10 < 140737488355328 then some (l0 ++ enc7 10 (IntKind.u64.wrap (mx a1 0))) else none
def varint_Put.l0 : Nat → List Int → Int → Option (List Int)
  | 0, _, _ => none
  | k + 1, x5, x6 => if x6 ≥ 128 then (if x5.length < 140737488355328 then (varint_Put.l0 k (x5 ++ [Go.bits .or .u8 (x6 % 256) 128]) (x6 / 128)) else (none)) else (if x5.length < 140737488355328 then (some (x5 ++ [x6 % 256])) else (none))
theorem bits_or128 (x : Int) (h0 : 0 ≤ x) : Go.bits .or .u8 (x % 256) 128 = x % 128 + 128 := by
  have h : ∀ a : Fin 256, Go.bits .or .u8 (a.val : Int) 128 = (a.val : Int) % 128 + 128 := by decide +kernel
  have h1 := h ⟨(x % 256).toNat, by omega⟩
  simp only at h1
  rw [show (((x % 256).toNat : Nat) : Int) = x % 256 from by omega] at h1
  rw [h1]; omega
theorem varint_Put.l0_enc (k : Nat) : ∀ (x5 : List Int) (x6 : Int), 0 ≤ x6 → x6 < 128 ^ (k + 1) → x5.length + k + 1 < 140737488355328 → varint_Put.l0 (k + 1) x5 x6 = some (x5 ++ enc7 (k + 1) x6) := by
  induction k with
  | zero =>
    intro x5 x6 h0 h1 h2
    have hn : ¬ x6 ≥ 128 := by omega
    rw [varint_Put.l0, enc7, if_neg hn, if_neg hn, if_pos (show x5.length < 140737488355328 by omega), show x6 % 256 = x6 from by omega]
  | succ k ih =>
    intro x5 x6 h0 h1 h2
    rw [varint_Put.l0, enc7]
    by_cases h : x6 ≥ 128
    · rw [if_pos h, if_pos h, if_pos (show x5.length < 140737488355328 by omega), bits_or128 x6 h0, ih _ _ (by omega) (by rw [Int.pow_succ] at h1; omega) (by simp; omega)]
      simp
    · rw [if_neg h, if_neg h, if_pos (show x5.length < 140737488355328 by omega), show x6 % 256 = x6 from by omega]
theorem wrap_u64_range (x : Int) : 0 ≤ IntKind.u64.wrap x ∧ IntKind.u64.wrap x < 18446744073709551616 := by
  simp [IntKind.wrap, IntKind.bits, IntKind.signed]; omega
theorem varint_Put.of_f {l0 : List Int} {a1 : Int} {r : List Int} (h : varint_Put.f l0 a1 = some r) : varint_Put.l0 10 l0 (IntKind.u64.wrap (mx a1 0)) = some r := by
  unfold varint_Put.f at h
  split at h
  · rw [varint_Put.l0_enc 9 l0 _ (wrap_u64_range _).1 (Int.lt_of_lt_of_le (wrap_u64_range _).2 (by decide)) (by omega)]; exact h
  · cases h
/-- A row of the call's own, or one that came in and has no room behind it. -/
def SrcU8 (w0 W : World) (v : Value) (xs : List Int) : Prop :=
  Kd.R (Kd.int .u8) 5 W w0.heap.size (fun _ => True) v xs ∨ ∃ A, v = .slice A xs.length xs.length ∧ (A = none → xs.length = 0) ∧ Kd.C (Kd.int .u8) W A xs.length xs
theorem src_below {w0 W W1 : World} {v : Value} {xs : List Int} (h : SrcU8 w0 W v xs) (hb : Below W.heap.size W W1) : SrcU8 w0 W1 v xs := by
  rcases h with h | ⟨A, h1, h2, h3⟩
  · exact .inl (Kd.R_below h hb)
  · exact .inr ⟨A, h1, h2, Kd.C_below h3 hb⟩
section
variable {P : Program} {ops : Array Oper} {rest : List Oper} {o : Oper} {a : Act} {Q : Exit → Act → World → Prop}
theorem src_append {w0 W : World} (hgd : o.guard = none) (s x : Operand) (t : TypeId)
    (ho : o.op = .call { callee := .builtin .append, args := #[s, x], argTypes := #[t, t] })
    (ht : P.underlying t = some (.slice 5)) (hinfo : (P.info? 5).map (fun i => (i.zero, i.size, i.bytes)) = some (some (.int .u8 0), 1, 1))
    (v : Value) (xs : List Int) (p : Int) (hs : a.eval s = v) (hx : a.eval x = .slice (some ⟨W.heap.size, 0, none⟩) 1 1)
    (HO : SrcU8 w0 W v xs) (HB : Below w0.heap.size w0 W) (hl : xs.length < 140737488355328)
    (h : ∀ v1 w1, Kd.R (Kd.int .u8) 5 w1 w0.heap.size (fun _ => True) v1 (xs ++ [p]) → Below w0.heap.size w0 w1 → wpList P ops Q rest (a.put o.dst v1) w1) :
    wpList P ops Q (o :: rest) a (W.alloc (.cells #[.int .u8 p] 5)) := by
  rcases HO with HO | ⟨A, rfl, hA, hC⟩
  · exact Kd.R_append (Kd.int .u8) (w0 := w0) w0.heap.size hgd s x t 5 (.int .u8 0) 1 ho ht hinfo rfl (by decide) (by omega) v xs p [.int .u8 p] (fun _ => True) (fun _ => False) hs hx rfl (fun _ hk => hk.elim) (fun _ _ => trivial) HO HB HB.size (by omega) (fun v1 w1 h1 h2 _ _ => h v1 w1 h1 h2)
  · obtain ⟨i0, hi, hzz⟩ := Option.map_eq_some_iff.1 hinfo
    simp only [Prod.mk.injEq] at hzz
    obtain ⟨hz0, hz1, hz2⟩ := hzz
    have hC' := readsInt_of.2 (Kd.reads_of_C (enc := Value.int .u8) (d := (0 : Int)) (h1 := fun _ => rfl) hC)
    refine wpList_append_grows (W.alloc (.cells #[.int .u8 p] 5)) hgd s x t ho 5 i0 (.int .u8 0) 1 1 ht hi hz0 hz1 hz2 rfl (by decide) A xs.length xs.length (nums .u8 xs) hs (fun e => ⟨hA e, hA e⟩) (by simp [nums_length])
      (fun b hb j u hj => ?_) ⟨W.heap.size, 0, none⟩ 1 1 [.int .u8 p] hx rfl
      (by simpa using World.news_of_block (cs := #[.int .u8 p]) (t := 5) (fr := (0, 0)) (heap_alloc_new W (.cells #[.int .u8 p] 5))) (by simp [Value.oneCell']) (by omega) (by simp only [maxLen]; omega) (by omega) ?_
    · have hjl : j < xs.length := by
        have := (List.getElem?_eq_some_iff.1 hj).1
        simpa [nums_length] using this
      obtain ⟨ad, e, hc⟩ := hC'.2.2 (by omega)
      subst hb
      cases e
      have h1 := hc j hjl
      have h2 : u = .int .u8 (xs.getD j 0) := by
        simp [nums, List.getElem?_eq_getElem hjl] at hj
        rw [← hj, List.getD_eq_getElem?_getD, List.getElem?_eq_getElem hjl]; rfl
      rw [h2]
      exact (Below.cell ((Below.refl W.heap.size W).alloc (Nat.le_refl _) _) (World.block_lt_of_cell? W _ h1)).trans h1
    · intro v' w' hown hg
      have hown' : w'.ownsRow w0.heap.size 5 1 v' (xs ++ [p]).length (encs (Value.int .u8) (xs ++ [p])) := by
        have : encs (Value.int .u8) (xs ++ [p]) = nums .u8 xs ++ [.int .u8 p] := by simp [encs, nums]
        rw [this, List.length_append, List.length_singleton]
        exact own_weaken hown (by have := HB.size; simp; omega)
      refine h v' w' (Kd.R_of_own hown' (fun _ _ => trivial)) ?_
      exact (HB.alloc HB.size _).grown hg (by have := HB.size; simp; omega) (fun k hk => by cases hk)
end
set_option maxHeartbeats 8000000 in
theorem varint_Put.calls (A0 : Option Addr) (c0 : Nat) (l0 : List Int) (a1 : Int) (r : List Int) (w : World) (am : Kd.C (Kd.int .u8) w A0 l0.length l0) (an : l0.length ≤ c0) (h : varint_Put.f l0 a1 = some r) :
    Calls Tryd.prog 38 #[.slice A0 l0.length c0, .int .i64 a1] w fun e w' => ∃ ao : Value, e = .returned (ao) ∧ Kd.R (Kd.int .u8) 5 w' w.heap.size (fun _ => True) ao r ∧ Below w.heap.size w w' := by
  have ap := aK am
  have ar := aK an
  clear am an
  have HB := aK (Below.refl w.heap.size w)
  have H : (varint_Put.l0 10 l0 (IntKind.u64.wrap (mx a1 0))) = some r := varint_Put.of_f h
  clear h
  have H' := aK H
  clear H
  have hcc := ar.out
  have au : (l0.length : Int) ≤ (c0 : Int) := by omega
  clear hcc
  obtain ⟨ji, hji⟩ : ∃ j_ : Int, (mx a1 0) = j_ := ⟨_, rfl⟩
  rw [hji] at H'
  have hji_ : (if a1 < 0 then 0 else a1) = ji := hji
  clear hji
  go_enter Tryd.func38, Tryd.ntmps38
  go_wp2
  go_loopg [5, 6] 10 (fun kq v5 v6 w' => ∃ (aa : List Int) (ab : Int), v6 = .int .u64 ab ∧ Aside0 (varint_Put.l0 kq aa ab = some r) ∧ Aside0 (kq ≤ 10) ∧ Aside0 (SrcU8 w w' v5 aa) ∧ Aside0 (Below w.heap.size w w'))
  case atStart =>
    refine ⟨l0, IntKind.u64.wrap ji, rfl, H', ⟨Nat.le_refl _⟩, ⟨.inr ⟨A0, rfl, fun e => ?_, ap.out⟩⟩, HB⟩
    rcases Nat.eq_zero_or_pos l0.length with hl | hl
    · exact hl
    · obtain ⟨ad, ea, _⟩ := ap.out.2.2 hl
      rw [e] at ea
      cases ea
  case round =>
    clear H'
    obtain ⟨aa, ab, rfl, HA, aq, ae, HB⟩ := hrel
    cases gk with
    | zero => exact absurd HA.out (by simp [varint_Put.l0])
    | succ k1 =>
      have H := HA.out
      clear HA
      simp only [varint_Put.l0] at H
      by_cases c3 : ab ≥ 128
      · rw [if_pos c3] at H
        have aj := decide_eq_true c3
        clear c3
        by_cases c5 : aa.length < 140737488355328
        · rw [if_pos c5] at H
          have af := aK c5
          clear c5
          obtain ⟨y1, ag⟩ : ∃ y_ : List Int, y_ = aa ++ [Go.bits .or .u8 (ab % 256) 128] := ⟨_, rfl⟩
          rw [← ag] at H
          have ak := aK ag
          clear ag
          have H' := aK H
          clear H
          go_wp2_with (first | ((with_reducible refine gate_builtin (b := .append) (xs := #[.tmp 18, .tmp 22]) rfl ?_); at_builtin; refine src_append (w0 := w) rfl (.tmp 18) (.tmp 22) 29 rfl Tryd.underlying29 info5 u5 aa (Go.bits .or .u8 (ab % 256) 128) rfl rfl ?aO ?aB ?aL ?_; (case aB => exact HB.out); (case aO => exact ae.out); (case aL => exact af.out); intro al w6 ho hb; rw [← ak.out] at ho; have ah := aK (hb); have ai := aK (ho); clear HB; clear ae; have HB := ah; have ac := ai; clear ah ai; clear ho hb))
          go_roundg k1
          case measure => have := aq.out; omega
          case rel => exact ⟨y1, _, rfl, H', ⟨by have := aq.out; omega⟩, ⟨.inl ac.out⟩, HB⟩
        · rw [if_neg c5] at H
          exact absurd H (by simp)
      · rw [if_neg c3] at H
        have aj := decide_eq_false c3
        clear c3
        by_cases c5 : aa.length < 140737488355328
        · rw [if_pos c5] at H
          have af := aK c5
          clear c5
          obtain ⟨y1, ag⟩ : ∃ y_ : List Int, y_ = aa ++ [ab % 256] := ⟨_, rfl⟩
          rw [← ag] at H
          have ak := aK ag
          clear ag
          have H' := aK H
          clear H
          go_wp2_with (first | ((with_reducible refine gate_builtin (b := .append) (xs := #[.tmp 26, .tmp 29]) rfl ?_); at_builtin; refine src_append (w0 := w) rfl (.tmp 26) (.tmp 29) 29 rfl Tryd.underlying29 info5 u5 aa (ab % 256) rfl rfl ?aO ?aB ?aL ?_; (case aB => exact HB.out); (case aO => exact ae.out); (case aL => exact af.out); intro al w6 ho hb; rw [← ak.out] at ho; have ah := aK (hb); have ai := aK (ho); clear HB; clear ae; have HB := ah; have ac := ai; clear ah ai; clear ho hb))
          obtain rfl := Option.some.inj H'.out
          go_ret
          exact ⟨_, rfl, ac.out, HB.out⟩
        · rw [if_neg c5] at H
          exact absurd H (by simp)

/-! ### varint_PutList: function 46 -/
mutual
def varint_PutList.l0 : Nat → List Int → List Int → Int → Int → Option (List Int × Int)
|0,_,_,_,_ => none
|k + 1,x0,x1,x11,x12 => if x12 < x11 then (if 0 ≤ x12 then (if x12 < (x1.length : Int) then (if (rd x1 x12) < 0 then (some (([] : List Int),1)) else (if x12 > 0 then (if 0 ≤ (wrap64 (x12 - 1)) then (if (wrap64 (x12 - 1)) < (x1.length : Int) then (if (rd x1 (wrap64 (x12 - 1))) ≥ (rd x1 x12) then (some (([] : List Int),1)) else (varint_PutList.l0 k x0 x1 x11 (wrap64 (x12 + 1)))) else (none)) else (none)) else (varint_PutList.l0 k x0 x1 x11 (wrap64 (x12 + 1))))) else (none)) else (none)) else ((varint_Put.f x0 (x1.length : Int)).bind fun t193 => (varint_PutList.l1 k x1 t193 0 (x1.length : Int) 0))
def varint_PutList.l1 : Nat → List Int → List Int → Int → Int → Int → Option (List Int × Int)
|0,_,_,_,_,_ => none
|k + 1,x1,x7,x8,x42,x43 => if x43 < x42 then (if 0 ≤ x43 then (if x43 < (x1.length : Int) then ((varint_Put.f x7 (wrap64 ((rd x1 x43) - x8))).bind fun t197 => (varint_PutList.l1 k x1 t197 (rd x1 x43) x42 (wrap64 (x43 + 1)))) else (none)) else (none)) else (some (x7,0))
end
def varint_PutList.f (k : Nat) (l0 : List Int) (l1 : List Int) : Option (List Int × Int) := varint_PutList.l0 k l0 l1 (l1.length : Int) 0
theorem varint_PutList.mono_l : ∀ k, (∀ y0 y1 y2 y3, LeO (varint_PutList.l0 k y0 y1 y2 y3) (varint_PutList.l0 (k + 1) y0 y1 y2 y3)) ∧ (∀ y0 y1 y2 y3 y4, LeO (varint_PutList.l1 k y0 y1 y2 y3 y4) (varint_PutList.l1 (k + 1) y0 y1 y2 y3 y4))
|0 => ⟨fun _ _ _ _ r h => by simp [varint_PutList.l0] at h,fun _ _ _ _ _ r h => by simp [varint_PutList.l1] at h⟩
|k + 1 => by
  obtain ⟨ih0,ih1⟩ := varint_PutList.mono_l k
  refine ⟨?_,?_⟩
  ·intro y0 y1 y2 y3
   unfold varint_PutList.l0
   repeat' (with_reducible first|exact ih0 _ _ _ _|exact ih1 _ _ _ _ _|exact LeO.refl _|exact LeO.none _|refine LeO.ite ?_ ?_|refine LeO.bind ?_ (fun _ => ?_))
  ·intro y0 y1 y2 y3 y4
   unfold varint_PutList.l1
   repeat' (with_reducible first|exact ih1 _ _ _ _ _|exact LeO.refl _|exact LeO.none _|refine LeO.ite ?_ ?_|refine LeO.bind ?_ (fun _ => ?_))
theorem varint_PutList.mono : ∀ a0 a1 k, LeO (varint_PutList.f k a0 a1) (varint_PutList.f (k + 1) a0 a1) := by
 intro a0 a1 k
 obtain ⟨ih0,ih1⟩ := varint_PutList.mono_l k
 unfold varint_PutList.f
 repeat' first
  |(with_reducible exact ih0 _ _ _ _)
  |(with_reducible exact ih1 _ _ _ _ _)
  |(with_reducible exact LeO.refl _)
  |(with_reducible exact LeO.none _)
  |(with_reducible refine LeO.ite ?_ ?_)
  |(with_reducible refine LeO.bind ?_ (fun _ => ?_))
  |exact ih0 _ _ _ _
  |exact ih1 _ _ _ _ _
  |exact LeO.none _
  |refine LeO.ite ?_ ?_
  |refine LeO.bind ?_ (fun _ => ?_)
theorem varint_PutList.calls (k : Nat) (A0 : Option Addr) (c0 : Nat) (l0 : List Int) (A1 : Option Addr) (c1 : Nat) (l1 : List Int) (r1 : List Int) (r2 : Int) (w : World) (a8 : Kd.C (Kd.int .u8) w A0 l0.length l0) (a9 : l0.length ≤ c0) (ba : Kd.C (Kd.int .i64) w A1 l1.length l1) (bb : l1.length ≤ c1) (h : varint_PutList.f k l0 l1 = some (r1, r2)) :
  Calls Tryd.prog 46 #[.slice A0 l0.length c0,.slice A1 l1.length c1] w fun e w' => ∃ bc : Value,e = .returned (.tuple #[bc,.int .i64 r2]) ∧ Kd.R (Kd.int .u8) 5 w' w.heap.size (fun _ => True) bc r1 ∧ Below w.heap.size w w' := by
 have a0 := aK a8
 have a1 := aK a9
 clear a8 a9
 have aA := aK ba
 have bv := aK bb
 clear ba bb
 have HB := aK (Below.refl w.heap.size w)
 have H : (varint_PutList.l0 k l0 l1 (l1.length : Int) 0) = some (r1,r2) := h
 clear h
 have H' := aK H
 clear H
 go_enter Tryd.func46,Tryd.ntmps46
 go_wp2
 repeat (go_quiet (fail);try go_wp2)
 go_loopg [12] k (fun kq bn w' => ∃ (aa : Int),bn = .int .i64 aa ∧ Aside0 (varint_PutList.l0 kq l0 l1 (l1.length : Int) aa = some (r1,r2)) ∧ Aside0 (kq ≤ k) ∧ Aside0 (Below w.heap.size w w'))
 case atStart => exact ⟨(0),(by first|rfl|(simp;done)|(simp [*];done)),H',⟨Nat.le_refl _⟩,⟨bM HB.out⟩⟩
 case round =>
  clear H'
  try clear p2
  obtain ⟨aa,rfl,HA,aQ,HB⟩ := hrel
  cases gk with
 |zero => exact absurd HA.out (by simp [varint_PutList.l0])
 |succ k1 =>
   have H := HA.out
   clear HA
   simp only [varint_PutList.l0] at H
   by_cases c3 : aa < (l1.length : Int)
   ·rw [if_pos c3] at H
    have aT := decide_eq_true c3
    clear c3
    obtain ⟨c4,H⟩ := iS H
    have bo := decide_eq_true c4
    clear c4
    obtain ⟨c5,H⟩ := iS H
    have bp := decide_eq_true c5
    clear c5
    by_cases c6 : (rd l1 aa) < 0
    ·rw [if_pos c6] at H
     have a2 := decide_eq_true c6
     clear c6
     simp only [Option.some.injEq,Prod.mk.injEq] at H
     obtain ⟨rfl,rfl⟩ := H
     have aj : 0 ≤ (aa : Int) := dA
     have ak : aa < (l1.length : Int) := dA
     obtain ⟨al,aw,ac⟩ := Kd.at_int aA.out aa aj ak
     cases aw
     replace ac := xM HB ac
     replace aj := eq_true aj
     replace ak := eq_true ak
     go_wp2
     repeat (go_quiet (fail);try go_wp2)
     go_ret2
     exact ⟨_,by first|rfl|(simp [errW_none,errW_some] <;> rfl)|(simp [*,errW_none,errW_some] <;> rfl),by first|exact Kd.R_nil _ _ _ _ _|exact Kd.N_nil _ _ _ _ _|exact Kd.V_nil _ _ _ _ _|exact Kd.Q_nil _ _ _ _ _|exact Kd.S_nil _ _ _ _ _,bM HB.out⟩
    ·rw [if_neg c6] at H
     have a2 := decide_eq_false c6
     clear c6
     by_cases c7 : aa > 0
     ·rw [if_pos c7] at H
      have a3 := decide_eq_true c7
      clear c7
      obtain ⟨aB,aI⟩ : ∃ j_ : Int,(wrap64 (aa - 1)) = j_ := ⟨_,rfl⟩
      replace H : (if 0 ≤ (aB) then (if (aB) < (l1.length : Int) then (if (rd l1 (aB)) ≥ (rd l1 aa) then (some (([] : List Int),1)) else (varint_PutList.l0 k1 l0 l1 (l1.length : Int) (wrap64 (aa + 1)))) else (none)) else (none)) = some (r1,r2) := by first|(rw [aI] at H;exact H)|(simp only [aI] at H ⊢;exact H)
      have bd : (IntKind.i64.wrap (aa - 1)) = aB := (i64_w _).trans aI
      obtain ⟨c9,H⟩ := iS H
      have bq := decide_eq_true c9
      clear c9
      obtain ⟨c10,H⟩ := iS H
      have be := decide_eq_true c10
      clear c10
      by_cases aR : (rd l1 (aB)) ≥ (rd l1 aa)
      ·rw [if_pos aR] at H
       have aU := decide_eq_true aR
       clear aR
       simp only [Option.some.injEq,Prod.mk.injEq] at H
       obtain ⟨rfl,rfl⟩ := H
       have aj : 0 ≤ (aa : Int) := dA
       have ak : aa < (l1.length : Int) := dA
       obtain ⟨al,aw,ac⟩ := Kd.at_int aA.out aa aj ak
       cases aw
       replace ac := xM HB ac
       replace aj := eq_true aj
       replace ak := eq_true ak
       have ap : 0 ≤ ((aB) : Int) := dA
       have aq : (aB) < (l1.length : Int) := dA
       obtain ⟨aC,aM,ah⟩ := Kd.at_int aA.out (aB) ap aq
       obtain rfl : al = aC := (by injection aM)
       replace ah := xM HB ah
       replace ap := eq_true ap
       replace aq := eq_true aq
       have ar : 0 ≤ (aa : Int) := dA
       have au : aa < (l1.length : Int) := dA
       obtain ⟨aD,aN,ai⟩ := Kd.at_int aA.out aa ar au
       obtain rfl : al = aD := (by injection aN)
       replace ai := xM HB ai
       replace ar := eq_true ar
       replace au := eq_true au
       go_wp2
       repeat (go_quiet (fail);try go_wp2)
       go_ret2
       exact ⟨_,by first|rfl|(simp [errW_none,errW_some] <;> rfl)|(simp only [← aI];first|rfl|(simp [errW_none,errW_some] <;> rfl))|(simp [*,errW_none,errW_some] <;> rfl),by first|exact Kd.R_nil _ _ _ _ _|exact Kd.N_nil _ _ _ _ _|exact Kd.V_nil _ _ _ _ _|exact Kd.Q_nil _ _ _ _ _|exact Kd.S_nil _ _ _ _ _,bM HB.out⟩
      ·rw [if_neg aR] at H
       have aU := decide_eq_false aR
       clear aR
       have H' := aK H
       clear H
       have aj : 0 ≤ (aa : Int) := dA
       have ak : aa < (l1.length : Int) := dA
       obtain ⟨al,aw,ac⟩ := Kd.at_int aA.out aa aj ak
       cases aw
       replace ac := xM HB ac
       replace aj := eq_true aj
       replace ak := eq_true ak
       have ap : 0 ≤ ((aB) : Int) := dA
       have aq : (aB) < (l1.length : Int) := dA
       obtain ⟨aC,aM,ah⟩ := Kd.at_int aA.out (aB) ap aq
       obtain rfl : al = aC := (by injection aM)
       replace ah := xM HB ah
       replace ap := eq_true ap
       replace aq := eq_true aq
       have ar : 0 ≤ (aa : Int) := dA
       have au : aa < (l1.length : Int) := dA
       obtain ⟨aD,aN,ai⟩ := Kd.at_int aA.out aa ar au
       obtain rfl : al = aD := (by injection aN)
       replace ai := xM HB ai
       replace ar := eq_true ar
       replace au := eq_true au
       go_wp2
       repeat (go_quiet (fail);try go_wp2)
       go_roundg k1
       case measure => have := aQ.out;omega
       case rel => exact ⟨(wrap64 (aa + 1)),(by first|rfl|(simp;done)|(simp [*];done)),H',⟨by have := aQ.out;omega⟩,⟨bM HB.out⟩⟩
     ·rw [if_neg c7] at H
      have a3 := decide_eq_false c7
      clear c7
      have H' := aK H
      clear H
      have aj : 0 ≤ (aa : Int) := dA
      have ak : aa < (l1.length : Int) := dA
      obtain ⟨al,aw,ac⟩ := Kd.at_int aA.out aa aj ak
      cases aw
      replace ac := xM HB ac
      replace aj := eq_true aj
      replace ak := eq_true ak
      go_wp2
      repeat (go_quiet (fail);try go_wp2)
      go_roundg k1
      case measure => have := aQ.out;omega
      case rel => exact ⟨(wrap64 (aa + 1)),(by first|rfl|(simp;done)|(simp [*];done)),H',⟨by have := aQ.out;omega⟩,⟨bM HB.out⟩⟩
   ·rw [if_neg c3] at H
    have aT := decide_eq_false c3
    clear c3
    replace H := Option.bind_eq_some_iff.mp H
    obtain ⟨aJ,aV,H⟩ := H
    have a4 := aK aV
    clear aV
    have H' := aK H
    clear H
    go_wp2_with (first|(go_at_call 38;(with_reducible refine (varint_Put.calls _ _ l0 (l1.length : Int) aJ _ ?ae ?af a4.out).mono ?_);(case ae => exact cM (Kd.C_below a0.out HB.out));(case af => exact a1.out);rintro e bf ⟨aW,rfl,ao,hb⟩;have aE := aK (Kd.R_lower ao (below_size (bM HB.out)));replace HB := aK (below_step (bM HB.out) hb);(try clear hb);(try clear hk);(try clear ao)))
    repeat (go_quiet (first|(go_at_call 38;(with_reducible refine (varint_Put.calls _ _ l0 (l1.length : Int) aJ _ ?ae ?af a4.out).mono ?_);(case ae => exact cM (Kd.C_below a0.out HB.out));(case af => exact a1.out);rintro e bf ⟨aW,rfl,ao,hb⟩;have aE := aK (Kd.R_lower ao (below_size (bM HB.out)));replace HB := aK (below_step (bM HB.out) hb);(try clear hb);(try clear hk);(try clear ao)));try go_wp2_with (first|(go_at_call 38;(with_reducible refine (varint_Put.calls _ _ l0 (l1.length : Int) aJ _ ?ae ?af a4.out).mono ?_);(case ae => exact cM (Kd.C_below a0.out HB.out));(case af => exact a1.out);rintro e bf ⟨aW,rfl,ao,hb⟩;have aE := aK (Kd.R_lower ao (below_size (bM HB.out)));replace HB := aK (below_step (bM HB.out) hb);(try clear hb);(try clear hk);(try clear ao))))
    go_loopg [7,8,43] k1 (fun kq v7 v8 br w' => ∃ (ay : List Int) (az : Int) (ab : Int),v8 = .int .i64 az ∧ br = .int .i64 ab ∧ Aside0 (varint_PutList.l1 kq l1 ay az (l1.length : Int) ab = some (r1,r2)) ∧ Aside0 (kq ≤ k1) ∧ Aside0 (Kd.R (Kd.int .u8) 5 w' w.heap.size (fun _ => True) v7 ay) ∧ Aside0 (Below w.heap.size w w'))
    case atStart => exact ⟨(aJ),(0),(0),(by first|rfl|(simp;done)|(simp [*];done)),(by first|rfl|(simp;done)|(simp [*];done)),H',⟨Nat.le_refl _⟩,⟨rM aE.out⟩,⟨bM HB.out⟩⟩
    case round =>
     clear H'
     try clear p1
     try clear q1
     try clear hx1
     try clear p2
     try clear c3
     try clear aT
     try clear p6
     try clear ac
     try clear ah
     try clear ai
     try clear aj
     try clear ap
     try clear ar
     try clear p2
     try clear ak
     try clear aq
     try clear au
     obtain ⟨ay,az,ab,rfl,rfl,HA,bg,ag,HB⟩ := hrel
     cases gk with
    |zero => exact absurd HA.out (by simp [varint_PutList.l1])
    |succ k2 =>
      have H := HA.out
      clear HA
      simp only [varint_PutList.l1] at H
      by_cases aS : ab < (l1.length : Int)
      ·rw [if_pos aS] at H
       have aX := decide_eq_true aS
       clear aS
       obtain ⟨bh,H⟩ := iS H
       have bi := decide_eq_true bh
       clear bh
       obtain ⟨bj,H⟩ := iS H
       have bk := decide_eq_true bj
       clear bj
       replace H := Option.bind_eq_some_iff.mp H
       obtain ⟨aL,aY,H⟩ := H
       have a5 := aK aY
       clear aY
       have H' := aK H
       clear H
       have aO : 0 ≤ (ab : Int) := dA
       have aP : ab < (l1.length : Int) := dA
       obtain ⟨aF,a6,ax⟩ := Kd.at_int aA.out ab aO aP
       cases a6
       replace ax := xM HB ax
       replace aO := eq_true aO
       replace aP := eq_true aP
       obtain ⟨bs,bu,a7⟩ := Kd.R_slice ag.out
       subst a7
       go_wp2_with (first|(go_at_call 38;(with_reducible refine (varint_Put.calls _ _ ay (wrap64 ((rd l1 ab) - az)) aL _ ?ae ?af a5.out).mono ?_);(case ae => exact cM (Kd.R_reads' ag.out).2.2);(case af => exact (Kd.R_reads' ag.out).2.1);rintro e bm ⟨aZ,rfl,ao,hb⟩;have aG := aK (Kd.R_lower (Kd.R_new' ao (Kd.R_lt (rM ag.out))) (below_size (bM HB.out)));replace ag := aK (Kd.R_elder' (rM ag.out) (Kd.R_base ao) hb);replace HB := aK (below_step (bM HB.out) hb);(try clear hb);(try clear hk);(try clear ao);have am : 0 ≤ (ab : Int) := dA;have an : ab < (l1.length : Int) := dA;obtain ⟨av,aH,ad⟩ := Kd.at_int aA.out ab am an;obtain rfl : aF = av := (by injection aH);replace ad := xM HB ad;replace am := eq_true am;replace an := eq_true an))
       repeat (go_quiet (first|(go_at_call 38;(with_reducible refine (varint_Put.calls _ _ ay (wrap64 ((rd l1 ab) - az)) aL _ ?ae ?af a5.out).mono ?_);(case ae => exact cM (Kd.R_reads' ag.out).2.2);(case af => exact (Kd.R_reads' ag.out).2.1);rintro e bm ⟨aZ,rfl,ao,hb⟩;have aG := aK (Kd.R_lower (Kd.R_new' ao (Kd.R_lt (rM ag.out))) (below_size (bM HB.out)));replace ag := aK (Kd.R_elder' (rM ag.out) (Kd.R_base ao) hb);replace HB := aK (below_step (bM HB.out) hb);(try clear hb);(try clear hk);(try clear ao);have am : 0 ≤ (ab : Int) := dA;have an : ab < (l1.length : Int) := dA;obtain ⟨av,aH,ad⟩ := Kd.at_int aA.out ab am an;obtain rfl : aF = av := (by injection aH);replace ad := xM HB ad;replace am := eq_true am;replace an := eq_true an));try go_wp2_with (first|(go_at_call 38;(with_reducible refine (varint_Put.calls _ _ ay (wrap64 ((rd l1 ab) - az)) aL _ ?ae ?af a5.out).mono ?_);(case ae => exact cM (Kd.R_reads' ag.out).2.2);(case af => exact (Kd.R_reads' ag.out).2.1);rintro e bm ⟨aZ,rfl,ao,hb⟩;have aG := aK (Kd.R_lower (Kd.R_new' ao (Kd.R_lt (rM ag.out))) (below_size (bM HB.out)));replace ag := aK (Kd.R_elder' (rM ag.out) (Kd.R_base ao) hb);replace HB := aK (below_step (bM HB.out) hb);(try clear hb);(try clear hk);(try clear ao);have am : 0 ≤ (ab : Int) := dA;have an : ab < (l1.length : Int) := dA;obtain ⟨av,aH,ad⟩ := Kd.at_int aA.out ab am an;obtain rfl : aF = av := (by injection aH);replace ad := xM HB ad;replace am := eq_true am;replace an := eq_true an)))
       go_roundg k2
       case measure => have := aQ.out;have := bg.out;omega
       case rel => exact ⟨(aL),(rd l1 ab),(wrap64 (ab + 1)),(by first|rfl|(simp;done)|(simp [*];done)),(by first|rfl|(simp;done)|(simp [*];done)),H',⟨by have := aQ.out;have := bg.out;omega⟩,⟨rM (Kd.R_mono aG.out (fun _ hk => trivial))⟩,⟨bM HB.out⟩⟩
      ·rw [if_neg aS] at H
       have aX := decide_eq_false aS
       clear aS
       simp only [Option.some.injEq,Prod.mk.injEq] at H
       obtain ⟨rfl,rfl⟩ := H
       go_wp2
       repeat (go_quiet (fail);try go_wp2)
       go_ret2
       exact ⟨_,by first|rfl|(simp [errW_none,errW_some] <;> rfl)|(simp [*,errW_none,errW_some] <;> rfl),rM ag.out,bM HB.out⟩

/-! ### manifest_list: function 39 -/
def manifest_list.f (k : Nat) (l0 : List Int) (l1 : List Int) : Option (List Int) := (varint_PutList.f k l0 l1).bind fun bt201 => (if bt201.2 = 0 then (some bt201.1) else ((varint_Put.f l0 0).bind fun t205 => (some t205)))
theorem manifest_list.mono : ∀ a0 a1 k, LeO (manifest_list.f k a0 a1) (manifest_list.f (k + 1) a0 a1) := by
 intro a0 a1 k
 unfold manifest_list.f
 repeat' first
  |(with_reducible exact varint_PutList.mono _ _ _)
  |(with_reducible exact LeO.refl _)
  |(with_reducible exact LeO.none _)
  |(with_reducible refine LeO.ite ?_ ?_)
  |(with_reducible refine LeO.bind ?_ (fun _ => ?_))
  |exact varint_PutList.mono _ _ _
  |exact LeO.none _
  |refine LeO.ite ?_ ?_
  |refine LeO.bind ?_ (fun _ => ?_)
theorem manifest_list.calls (k : Nat) (A0 : Option Addr) (c0 : Nat) (l0 : List Int) (A1 : Option Addr) (c1 : Nat) (l1 : List Int) (r : List Int) (w : World) (aq : Kd.C (Kd.int .u8) w A0 l0.length l0) (ar : l0.length ≤ c0) (au : Kd.C (Kd.int .i64) w A1 l1.length l1) (av : l1.length ≤ c1) (h : manifest_list.f k l0 l1 = some r) :
  Calls Tryd.prog 39 #[.slice A0 l0.length c0,.slice A1 l1.length c1] w fun e w' => ∃ aw : Value,e = .returned (aw) ∧ Kd.R (Kd.int .u8) 5 w' w.heap.size (fun _ => True) aw r ∧ Below w.heap.size w w' := by
 have al := aK aq
 have am := aK ar
 clear aq ar
 have ax := aK au
 have ay := aK av
 clear au av
 have HB := aK (Below.refl w.heap.size w)
 have H : ((varint_PutList.f k l0 l1).bind fun ah => (if ah.2 = 0 then (some ah.1) else ((varint_Put.f l0 0).bind fun ac => (some ac)))) = some r := h
 clear h
 replace H := Option.bind_eq_some_iff.mp H
 obtain ⟨⟨aj,ag⟩,az,H⟩ := H
 replace H : (if ag = 0 then (some aj) else ((varint_Put.f l0 0).bind fun ac => (some ac))) = some r := H
 have A3 := aK az
 clear az
 by_cases c4 : ag = 0
 ·rw [if_pos c4] at H
  have an := beq_iff_eq.mpr c4
  have ao := bne_eq_false_iff_eq.mpr c4
  clear c4
  obtain rfl := Option.some.inj H
  go_enter Tryd.func39,Tryd.ntmps39
  go_wp2_with (first|((with_reducible refine gate_callee (f := 46) rfl ?_);refine gL 10 Tryd.func46 #[.slice A0 l0.length c0,.slice A1 l1.length c1] ?_;(with_reducible refine (varint_PutList.calls k _ _ l0 _ _ l1 aj ag _ ?aa ?ab ?ad ?ae A3.out).mono ?_);(case aa => exact cM al.out);(case ab => exact am.out);(case ad => exact cM ax.out);(case ae => exact ay.out);rintro e w5 ⟨ap,rfl,ai,hb⟩;refine ⟨_,rfl,?_⟩;have af := aK (Kd.R_lower ai (below_size (bM HB.out)));replace HB := aK (below_step (bM HB.out) hb);(try clear hb);(try clear hk);(try clear ai)))
  go_ret
  exact ⟨_,by first|rfl|(simp [errW_none,errW_some] <;> rfl)|(simp [*,errW_none,errW_some] <;> rfl),rM af.out,bM HB.out⟩
 ·rw [if_neg c4] at H
  have an := beq_eq_false_iff_ne.mpr c4
  have ao := bne_iff_ne.mpr c4
  replace H := Option.bind_eq_some_iff.mp H
  obtain ⟨ac,aA,H⟩ := H
  have A6 := aK aA
  clear aA
  obtain rfl := Option.some.inj H
  go_enter Tryd.func39,Tryd.ntmps39
  go_wp2_with (first|((with_reducible refine gate_callee (f := 46) rfl ?_);refine gL 10 Tryd.func46 #[.slice A0 l0.length c0,.slice A1 l1.length c1] ?_;(with_reducible refine (varint_PutList.calls k _ _ l0 _ _ l1 aj ag _ ?aa ?ab ?ad ?ae A3.out).mono ?_);(case aa => exact cM al.out);(case ab => exact am.out);(case ad => exact cM ax.out);(case ae => exact ay.out);rintro e w7 ⟨ap,rfl,ai,hb⟩;refine ⟨_,rfl,?_⟩;have af := aK (Kd.R_lower ai (below_size (bM HB.out)));replace HB := aK (below_step (bM HB.out) hb);(try clear hb);(try clear hk);(try clear ai))|((with_reducible refine gate_callee (f := 38) rfl ?_);refine gL 16 Tryd.func38 #[.slice A0 l0.length c0,.int .i64 0] ?_;(with_reducible refine (varint_Put.calls _ _ l0 0 ac _ ?aa ?ab A6.out).mono ?_);(case aa => exact cM (Kd.C_below al.out HB.out));(case ab => exact am.out);rintro e w8 ⟨aB,rfl,ai,hb⟩;refine ⟨_,rfl,?_⟩;have ak := aK (Kd.R_lower (Kd.R_new' ai (Kd.R_lt (rM af.out))) (below_size (bM HB.out)));replace HB := aK (below_step (bM HB.out) hb);(try clear hb);(try clear hk);(try clear ai)))
  go_ret
  exact ⟨_,by first|rfl|(simp [errW_none,errW_some] <;> rfl)|(simp [*,errW_none,errW_some] <;> rfl),rM (Kd.R_mono ak.out (fun _ hk => trivial)),bM HB.out⟩

/-! ### varint_PutString: function 40 -/
def varint_PutString.f (l0 : List Int) (a1 : ByteArray) : Option (List Int) := (varint_Put.f l0 (a1.size : Int)).bind fun t208 => (if t208.length + a1.size < 140737488355328 then (some (t208 ++ bytesOf a1)) else (none))
theorem varint_PutString.calls (A0 : Option Addr) (c0 : Nat) (l0 : List Int) (a1 : ByteArray) (r : List Int) (w : World) (an : Kd.C (Kd.int .u8) w A0 l0.length l0) (ao : l0.length ≤ c0) (h : varint_PutString.f l0 a1 = some r) :
  Calls Tryd.prog 40 #[.slice A0 l0.length c0,.string a1] w fun e w' => ∃ ap : Value,e = .returned (ap) ∧ Kd.R (Kd.int .u8) 5 w' w.heap.size (fun _ => True) ap r ∧ Below w.heap.size w w' := by
 have ar := aK an
 have au := aK ao
 clear an ao
 have HB := aK (Below.refl w.heap.size w)
 have H : ((varint_Put.f l0 (a1.size : Int)).bind fun ab => (if ab.length + a1.size < 140737488355328 then (some (ab ++ bytesOf a1)) else (none))) = some r := h
 clear h
 replace H := Option.bind_eq_some_iff.mp H
 obtain ⟨ab,aq,H⟩ := H
 have A3 := aK aq
 clear aq
 by_cases c4 : ab.length + a1.size < 140737488355328
 ·rw [if_pos c4] at H
  have aj := aK c4
  clear c4
  obtain ⟨ac,aa⟩ : ∃ y_ : List Int,y_ = (ab ++ bytesOf a1) := ⟨_,rfl⟩
  replace H : (some ac) = some r := by first|(rw [aa];with_reducible exact H)|(have ak := (Option.bind_some _ _).symm.trans H;rw [aa];with_reducible exact ak)|(have ak := (Option.bind_some _ _).symm.trans H;with_reducible exact ak)|with_reducible exact H|(rw [aa];exact H)|exact H
  have ad := aK aa
  clear aa
  obtain rfl := Option.some.inj H
  go_enter Tryd.func40,Tryd.ntmps40
  go_wp2_with (first|((with_reducible refine gate_callee (f := 38) rfl ?_);refine gL 8 Tryd.func38 #[.slice A0 l0.length c0,.int .i64 (a1.size : Int)] ?_;(with_reducible refine (varint_Put.calls _ _ l0 (a1.size : Int) ab _ ?ae ?af A3.out).mono ?_);(case ae => exact cM ar.out);(case af => exact au.out);rintro e w5 ⟨al,rfl,ag,hb⟩;refine ⟨_,rfl,?_⟩;have ah := aK (Kd.R_lower ag (below_size (bM HB.out)));replace HB := aK (below_step (bM HB.out) hb);(try clear hb);(try clear ag))|(at_builtin;refine print_append_str (w0 := w) w.heap.size rfl (.tmp 8) _ 29 9 5 rfl Tryd.underlying29 Tryd.underlying9 info5 al ab a1 rfl rfl ?aO ?aB ?aS ?aL ?_;(case aB => exact (bM HB.out));(case aO => exact (Kd.own_of_R (rM ah.out)));(case aS => exact (below_size (bM HB.out)));(case aL => have := aj.out;omega);intro am w6 ag hb hg;have ho := Kd.R_of_own (h1 := fun _ => rfl) (ok := fun _ => True) ag (fun _ _ => trivial);clear ag;have hat := True.intro;rw [← ad.out] at ho;change Kd.R (Kd.int .u8) 5 w6 w.heap.size (fun _ => True) am ac at ho;replace HB := aK (hb);have ai := aK (ho);clear ho hb hg hat))
  go_ret
  exact ⟨_,by first|rfl|(simp [errW_none,errW_some] <;> rfl)|(simp [*,errW_none,errW_some] <;> rfl),rM ai.out,bM HB.out⟩
 ·rw [if_neg c4] at H
  exact absurd H (by simp)

/-! ### manifest_Encode: function 19 -/
def manifest_Encode.l0 : Nat → List Int → List ByteArray → Int → Int → Option (List Int)
|0,_,_,_,_ => none
|k + 1,x3,x31,x32,x33 => if x33 < x32 then (if 0 ≤ x33 then (if x33 < (x31.length : Int) then ((varint_PutString.f x3 (rdOf ByteArray.empty x31 x33)).bind fun t234 => (manifest_Encode.l0 k t234 x31 x32 (wrap64 (x33 + 1)))) else (none)) else (none)) else (some x3)
def manifest_Encode.f (k : Nat) (a0_0 : Int) (a0_1 : Int) (a0_2 : Int) (l0_3 : List Int) (l0_4 : List Int) (l0_5 : List ByteArray) : Option (List Int) := (varint_Put.f ([] : List Int) a0_0).bind fun t215 => ((varint_Put.f t215 a0_1).bind fun t218 => ((varint_Put.f t218 a0_2).bind fun t221 => ((manifest_list.f k t221 l0_3).bind fun t224 => ((manifest_list.f k t224 l0_4).bind fun t227 => ((varint_Put.f t227 (l0_5.length : Int)).bind fun t230 => (manifest_Encode.l0 k t230 l0_5 (l0_5.length : Int) 0))))))
theorem manifest_Encode.mono_l : ∀ k, (∀ y0 y1 y2 y3, LeO (manifest_Encode.l0 k y0 y1 y2 y3) (manifest_Encode.l0 (k + 1) y0 y1 y2 y3))
|0 => fun _ _ _ _ r h => by simp [manifest_Encode.l0] at h
|k + 1 => by
  have ih0 := manifest_Encode.mono_l k
  ·intro y0 y1 y2 y3
   unfold manifest_Encode.l0
   repeat' (with_reducible first|exact ih0 _ _ _ _|exact LeO.refl _|exact LeO.none _|refine LeO.ite ?_ ?_|refine LeO.bind ?_ (fun _ => ?_))
theorem manifest_Encode.mono : ∀ a0 a1 a2 a3 a4 a5 k, LeO (manifest_Encode.f k a0 a1 a2 a3 a4 a5) (manifest_Encode.f (k + 1) a0 a1 a2 a3 a4 a5) := by
 intro a0 a1 a2 a3 a4 a5 k
 have ih0 := manifest_Encode.mono_l k
 unfold manifest_Encode.f
 repeat' first
  |(with_reducible exact ih0 _ _ _ _)
  |(with_reducible exact manifest_list.mono _ _ _)
  |(with_reducible exact LeO.refl _)
  |(with_reducible exact LeO.none _)
  |(with_reducible refine LeO.ite ?_ ?_)
  |(with_reducible refine LeO.bind ?_ (fun _ => ?_))
  |exact ih0 _ _ _ _
  |exact manifest_list.mono _ _ _
  |exact LeO.none _
  |refine LeO.ite ?_ ?_
  |refine LeO.bind ?_ (fun _ => ?_)
theorem manifest_Encode.calls (k : Nat) (ap : Int) (aq : Int) (ar : Int) (au : Option Addr) (av : Nat) (ak : List Int) (aw : Option Addr) (ax : Nat) (al : List Int) (aC : Option Addr) (aD : Nat) (ah : List ByteArray) (r : List Int) (w : World) (bW : Kd.C (Kd.int .i64) w au ak.length ak) (bX : ak.length ≤ av) (bY : Kd.C (Kd.int .i64) w aw al.length al) (bZ : al.length ≤ ax) (b0 : Kd.C Kd.string w aC ah.length ah) (b1 : ah.length ≤ aD) (h : manifest_Encode.f k ap aq ar ak al ah = some r) :
  Calls Tryd.prog 19 #[.agg #[.int .i64 ap,.int .i64 aq,.int .i64 ar,.slice au ak.length av,.slice aw al.length ax,.slice aC ah.length aD]] w fun e w' => ∃ cV : Value,e = .returned (cV) ∧ Kd.R (Kd.int .u8) 5 w' w.heap.size (fun _ => True) cV r ∧ Below w.heap.size w w' := by
 have di := Tryd.underlying37
 have cm := aK bW
 have cn := aK bX
 clear bW bX
 have co := aK bY
 have cp := aK bZ
 clear bY bZ
 have cq := aK b0
 have cW := aK b1
 clear b0 b1
 have HB := aK (Below.refl w.heap.size w)
 unfold manifest_Encode.f at h
 have H := h
 clear h
 replace H := Option.bind_eq_some_iff.mp H
 obtain ⟨b2,cX,H⟩ := H
 have A2 := aK cX
 clear cX
 replace H := Option.bind_eq_some_iff.mp H
 obtain ⟨b3,cA,H⟩ := H
 have A3 := aK cA
 clear cA
 replace H := Option.bind_eq_some_iff.mp H
 obtain ⟨b4,cY,H⟩ := H
 have A4 := aK cY
 clear cY
 replace H := Option.bind_eq_some_iff.mp H
 obtain ⟨b5,cZ,H⟩ := H
 have A5 := aK cZ
 clear cZ
 replace H := Option.bind_eq_some_iff.mp H
 obtain ⟨b6,c0,H⟩ := H
 have A6 := aK c0
 clear c0
 replace H := Option.bind_eq_some_iff.mp H
 obtain ⟨cr,c1,H⟩ := H
 have A7 := aK c1
 clear c1
 have H' := aK H
 clear H
 go_enter Tryd.func19,Tryd.ntmps19
 go_wp2_with (first|((with_reducible refine gate_dst (N := 1) rfl ?_);refine box_event ?hg (N := 1) ?hd (cs := #[.int .i64 ap,.int .i64 aq,.int .i64 ar,.slice au ak.length av,.slice aw al.length ax,.slice aC ah.length aD]) (t := 37) ?hr ?_;(case hd => rfl);(case hg => rfl);(case hr => first|(go_simp;done)|(go_simp;rfl));intro ay hg w8 hbox hb;have aa := aK (hbox);have ct := aK ((by rw [hg];exact (below_size (bM HB.out)) : w.heap.size ≤ ay));have da := Ge.mk ct.out;have cu := aK ((by rw [hg];exact (below_size (bM HB.out)) : w.heap.size ≤ ay));have db := Ge.mk cu.out;replace HB := aK (below_step (bM HB.out) hb);clear hb hbox hg;obtain ⟨b7,b8,b9,ca,cb,cc,cd,ce,cf,cg,ch,ci⟩ := bk6_ aa.out)|(go_at_call 38;refine calls_of_args (args' := #[.slice none ([] : List Int).length 0,.int .i64 ap]) (by first|with_reducible rfl|(simp only [List.length_nil];done)|(simp only [List.length_nil];with_reducible rfl)) ?_;(with_reducible refine (varint_Put.calls _ _ ([] : List Int) ap b2 _ ?ac ?ad A2.out).mono ?_);(case ac => exact Kd.C_nil _ _);(case ad => exact Nat.le_refl _);rintro e ds ⟨dj,rfl,ai,hb⟩;have ab := aK (Kd.R_lower ai (below_size (bG HB.out)));replace aa := aK (blk_below (kM aa.out) hb);replace HB := aK (below_step (bG HB.out) hb);(try clear hb);(try clear hk);(try clear ai);obtain ⟨aE,aF,aG,aH,aI,aJ,aL,aM,aN,aO,aP,aQ⟩ := bk6_ aa.out;obtain ⟨cB,cC,cD⟩ := Kd.R_slice ab.out;subst cD)|((with_reducible refine gate_callee (f := 38) rfl ?_);refine gL 12 Tryd.func38 #[.slice cB b2.length cC,.int .i64 aq] ?_;(with_reducible refine (varint_Put.calls _ _ b2 aq b3 _ ?ac ?ad A3.out).mono ?_);(case ac => exact cM (Kd.R_reads' ab.out).2.2);(case ad => exact (Kd.R_reads' ab.out).2.1);rintro e dt ⟨dk,rfl,ai,hb⟩;refine ⟨_,rfl,?_⟩;have ae := aK (Kd.R_lower (Kd.R_new' ai (Kd.R_lt (rM ab.out))) (below_size (bG HB.out)));replace ab := aK (Kd.R_elder' (rM ab.out) (Kd.R_base ai) hb);replace aa := aK (blk_below (kM aa.out) hb);replace HB := aK (below_step (bG HB.out) hb);(try clear hb);(try clear hk);(try clear ai);obtain ⟨aR,aS,aT,aU,aV,aW,aX,aY,aZ,a0,a1,a2⟩ := bk6_ aa.out;obtain ⟨cE,cF,cG⟩ := Kd.R_slice ae.out;subst cG)|((with_reducible refine gate_callee (f := 38) rfl ?_);refine gL 16 Tryd.func38 #[.slice cE b3.length cF,.int .i64 ar] ?_;(with_reducible refine (varint_Put.calls _ _ b3 ar b4 _ ?ac ?ad A4.out).mono ?_);(case ac => exact cM (Kd.R_reads' ae.out).2.2);(case ad => exact (Kd.R_reads' ae.out).2.1);rintro e du ⟨dl,rfl,ai,hb⟩;refine ⟨_,rfl,?_⟩;have af := aK (Kd.R_lower (Kd.R_new' (Kd.R_new' ai (Kd.R_lt (rM ab.out))) (Kd.R_lt (rM ae.out))) (below_size (bG HB.out)));replace ab := aK (Kd.R_elder' (rM ab.out) (Kd.R_base ai) hb);replace ae := aK (Kd.R_elder' (rM ae.out) (Kd.R_base ai) hb);replace aa := aK (blk_below (kM aa.out) hb);replace HB := aK (below_step (bG HB.out) hb);(try clear hb);(try clear hk);(try clear ai);obtain ⟨a3,a4,a5,a6,a7,a8,a9,ba,bb,bc,bd,be⟩ := bk6_ aa.out;obtain ⟨cH,cI,cJ⟩ := Kd.R_slice af.out;subst cJ)|((with_reducible refine gate_callee (f := 39) rfl ?_);refine gL 20 Tryd.func39 #[.slice cH b4.length cI,.slice au ak.length av] ?_;(with_reducible refine (manifest_list.calls k _ _ b4 _ _ ak b5 _ ?ac ?ad ?az ?aA A5.out).mono ?_);(case ac => exact cM (Kd.R_reads' af.out).2.2);(case ad => exact (Kd.R_reads' af.out).2.1);(case az => exact cM (Kd.C_below cm.out HB.out));(case aA => exact cn.out);rintro e dv ⟨dm,rfl,ai,hb⟩;refine ⟨_,rfl,?_⟩;have aj := aK (Kd.R_lower (Kd.R_new' (Kd.R_new' (Kd.R_new' ai (Kd.R_lt (rM ab.out))) (Kd.R_lt (rM ae.out))) (Kd.R_lt (rM af.out))) (below_size (bG HB.out)));replace ab := aK (Kd.R_elder' (rM ab.out) (Kd.R_base ai) hb);replace ae := aK (Kd.R_elder' (rM ae.out) (Kd.R_base ai) hb);replace af := aK (Kd.R_elder' (rM af.out) (Kd.R_base ai) hb);replace aa := aK (blk_below (kM aa.out) hb);replace HB := aK (below_step (bG HB.out) hb);(try clear hb);(try clear hk);(try clear ai);obtain ⟨bf,bg,bh,bi,bj,bk,bm,bn,bo,bp,bq,br⟩ := bk6_ aa.out;obtain ⟨cK,cL,cN⟩ := Kd.R_slice aj.out;subst cN)|((with_reducible refine gate_callee (f := 39) rfl ?_);refine gL 24 Tryd.func39 #[.slice cK b5.length cL,.slice aw al.length ax] ?_;(with_reducible refine (manifest_list.calls k _ _ b5 _ _ al b6 _ ?ac ?ad ?az ?aA A6.out).mono ?_);(case ac => exact cM (Kd.R_reads' aj.out).2.2);(case ad => exact (Kd.R_reads' aj.out).2.1);(case az => exact cM (Kd.C_below co.out HB.out));(case aA => exact cp.out);rintro e dw ⟨dn,rfl,ai,hb⟩;refine ⟨_,rfl,?_⟩;have an := aK (Kd.R_lower (Kd.R_new' (Kd.R_new' (Kd.R_new' (Kd.R_new' ai (Kd.R_lt (rM ab.out))) (Kd.R_lt (rM ae.out))) (Kd.R_lt (rM af.out))) (Kd.R_lt (rM aj.out))) (below_size (bG HB.out)));replace ab := aK (Kd.R_elder' (rM ab.out) (Kd.R_base ai) hb);replace ae := aK (Kd.R_elder' (rM ae.out) (Kd.R_base ai) hb);replace af := aK (Kd.R_elder' (rM af.out) (Kd.R_base ai) hb);replace aj := aK (Kd.R_elder' (rM aj.out) (Kd.R_base ai) hb);replace aa := aK (blk_below (kM aa.out) hb);replace HB := aK (below_step (bG HB.out) hb);(try clear hb);(try clear hk);(try clear ai);obtain ⟨bs,bu,bv,bx,bz,bB,bC,bD,bE,bF,bH,bI⟩ := bk6_ aa.out;obtain ⟨cO,cP,cQ⟩ := Kd.R_slice an.out;subst cQ)|((with_reducible refine gate_callee (f := 38) rfl ?_);refine gL 29 Tryd.func38 #[.slice cO b6.length cP,.int .i64 (ah.length : Int)] ?_;(with_reducible refine (varint_Put.calls _ _ b6 (ah.length : Int) cr _ ?ac ?ad A7.out).mono ?_);(case ac => exact cM (Kd.R_reads' an.out).2.2);(case ad => exact (Kd.R_reads' an.out).2.1);rintro e dx ⟨dp,rfl,ai,hb⟩;refine ⟨_,rfl,?_⟩;have cv := aK (Kd.R_lower (Kd.R_new' (Kd.R_new' (Kd.R_new' (Kd.R_new' (Kd.R_new' ai (Kd.R_lt (rM ab.out))) (Kd.R_lt (rM ae.out))) (Kd.R_lt (rM af.out))) (Kd.R_lt (rM aj.out))) (Kd.R_lt (rM an.out))) (below_size (bG HB.out)));replace aa := aK (blk_below (kM aa.out) hb);replace HB := aK (below_step (bG HB.out) hb);(try clear hb);(try clear hk);(try clear ai);obtain ⟨bJ,bK,bL,bN,bO,bP,bQ,bR,bS,bT,bU,bV⟩ := bk6_ aa.out))
 go_loopg [3,33] k (fun kq v3 dq w' => ∃ (aB : List Int) (ag : Int),dq = .int .i64 ag ∧ Aside0 (manifest_Encode.l0 kq aB ah (ah.length : Int) ag = some r) ∧ Aside0 (kq ≤ k) ∧ Aside0 (Kd.R (Kd.int .u8) 5 w' w.heap.size (fun _ => True) v3 aB) ∧ Aside0 (w'.heap[ay]? = some (.cells #[.int .i64 ap,.int .i64 aq,.int .i64 ar,(.slice au ak.length av),(.slice aw al.length ax),(.slice aC ah.length aD)] 37 (0,0))) ∧ Aside0 (Below w.heap.size w w'))
 case atStart => exact ⟨(cr),(0),(by first|rfl|(simp;done)|(simp [*];done)),H',⟨Nat.le_refl _⟩,⟨rM (Kd.R_mono cv.out (fun _ hk => trivial))⟩,⟨kM aa.out⟩,⟨bG HB.out⟩⟩
 case round =>
  clear H'
  try clear p2
  try clear aE
  try clear aF
  try clear aG
  try clear aH
  try clear aI
  try clear aJ
  try clear aR
  try clear aS
  try clear aT
  try clear aU
  try clear aV
  try clear aW
  try clear a3
  try clear a4
  try clear a5
  try clear a6
  try clear a7
  try clear a8
  try clear bf
  try clear bg
  try clear bh
  try clear bi
  try clear bj
  try clear bk
  try clear bs
  try clear bu
  try clear bv
  try clear bx
  try clear bz
  try clear bB
  try clear bJ
  try clear bK
  try clear bL
  try clear bN
  try clear bO
  try clear bP
  try clear b7
  try clear b8
  try clear b9
  try clear ca
  try clear cb
  try clear cc
  try clear aL
  try clear aM
  try clear aN
  try clear aO
  try clear aP
  try clear aQ
  try clear aX
  try clear aY
  try clear aZ
  try clear a0
  try clear a1
  try clear a2
  try clear a9
  try clear ba
  try clear bb
  try clear bc
  try clear bd
  try clear be
  try clear bm
  try clear bn
  try clear bo
  try clear bp
  try clear bq
  try clear br
  try clear bC
  try clear bD
  try clear bE
  try clear bF
  try clear bH
  try clear bI
  try clear bQ
  try clear bR
  try clear bS
  try clear bT
  try clear bU
  try clear bV
  try clear cd
  try clear ce
  try clear cf
  try clear cg
  try clear ch
  try clear ci
  obtain ⟨aB,ag,rfl,HA,dc,am,aa,HB⟩ := hrel
  cases gk with
 |zero => exact absurd HA.out (by simp [manifest_Encode.l0])
 |succ k1 =>
   have H := HA.out
   clear HA
   simp only [manifest_Encode.l0] at H
   by_cases cl : ag < (ah.length : Int)
   ·rw [if_pos cl] at H
    have cw := decide_eq_true cl
    clear cl
    obtain ⟨dd,H⟩ := iS H
    have de := decide_eq_true dd
    clear dd
    obtain ⟨df,H⟩ := iS H
    have dg := decide_eq_true df
    clear df
    replace H := Option.bind_eq_some_iff.mp H
    obtain ⟨cx,cy,H⟩ := H
    have cA := aK cy
    clear cy
    have H' := aK H
    clear H
    have cj : 0 ≤ (ag : Int) := dA
    have ck : ag < (ah.length : Int) := dA
    obtain ⟨dh,cR,ao⟩ := Kd.at_string cq.out ag cj ck
    cases cR
    replace ao := xM HB ao
    replace cj := eq_true cj
    replace ck := eq_true ck
    obtain ⟨cS,cT,cU⟩ := Kd.R_slice am.out
    subst cU
    go_wp2_with (first|((with_reducible refine gate_callee (f := 40) rfl ?_);refine gL 39 Tryd.func40 #[.slice cS aB.length cT,.string (rdOf ByteArray.empty ah ag)] ?_;(with_reducible refine (varint_PutString.calls _ _ aB (rdOf ByteArray.empty ah ag) cx _ ?ac ?ad cA.out).mono ?_);(case ac => exact cM (Kd.R_reads' am.out).2.2);(case ad => exact (Kd.R_reads' am.out).2.1);rintro e dy ⟨dr,rfl,ai,hb⟩;refine ⟨_,rfl,?_⟩;have cz := aK (Kd.R_lower (Kd.R_new' ai (Kd.R_lt (rM am.out))) (below_size (bG HB.out)));replace am := aK (Kd.R_elder' (rM am.out) (Kd.R_base ai) hb);replace aa := aK (blk_below (kM aa.out) hb);replace HB := aK (below_step (bG HB.out) hb);(try clear hb);(try clear hk);(try clear ai)))
    go_roundg k1
    case measure => have := dc.out;omega
    case rel => exact ⟨(cx),(wrap64 (ag + 1)),(by first|rfl|(simp;done)|(simp [*];done)),H',⟨by have := dc.out;omega⟩,⟨rM (Kd.R_mono cz.out (fun _ hk => trivial))⟩,⟨kM aa.out⟩,⟨bG HB.out⟩⟩
   ·rw [if_neg cl] at H
    have cw := decide_eq_false cl
    clear cl
    obtain rfl := Option.some.inj H
    go_wp2
    go_ret
    exact ⟨_,by first|rfl|(simp [errW_none,errW_some] <;> rfl)|(simp [*,errW_none,errW_some] <;> rfl),rM am.out,bG HB.out⟩

/-! ### checksum_Extend: function 51 (by hand) -/
def tabZ (i : Int) : Int := tabV i.toNat
theorem tabA_get (i : Int) (h0 : 0 ≤ i) (h1 : i < 16) : (tabA 16)[i.toNat]? = some (.int .u32 (tabZ i)) := by
  have h : i.toNat < 16 := by omega
  simp [tabA, tabZ, h]
theorem and15 (x : Int) : 0 ≤ Go.bits .and .u32 x 15 ∧ Go.bits .and .u32 x 15 < 16 := by
  refine ⟨bits_nonneg_u32 _ _ _, ?_⟩
  unfold Go.bits
  have h : (BitVec.ofInt IntKind.u32.bits x &&& BitVec.ofInt IntKind.u32.bits 15).toNat ≤ 15 := by
    rw [BitVec.toNat_and]
    exact Nat.le_trans Nat.and_le_right (by decide)
  show IntKind.u32.wrap ((BitVec.ofInt IntKind.u32.bits x &&& BitVec.ofInt IntKind.u32.bits 15).toNat : Int) < 16
  rw [IntKind.wrap_u32]
  omega
def crcHalf (x : Int) : Int := Go.bits .xor .u32 (x / 16) (tabZ (Go.bits .and .u32 x 15))
def crcIn (x c : Int) : Int := crcHalf (crcHalf (Go.bits .xor .u32 x (c % 4294967296)))
def checksum_Extend.f (a0 : Int) (l1 : List Int) : Option Int := some (Go.bits .xor .u32 4294967295 (l1.foldl crcIn (Go.bits .xor .u32 4294967295 a0)))
theorem foldl_take (l : List Int) (z : Int) (i : Nat) (h : i < l.length) : (l.take (i + 1)).foldl crcIn z = crcIn ((l.take i).foldl crcIn z) (rd l (i : Int)) := by
  rw [List.take_succ_eq_append_getElem h, List.foldl_append]
  simp [rd, List.getD_eq_getElem?_getD, List.getElem?_eq_getElem h]
theorem checksum_Extend.calls (a0 : Int) (A1 : Option Addr) (c1 : Nat) (l1 : List Int) (r : Int) (w : World) (ab : Kd.C (Kd.int .u8) w A1 l1.length l1) (ah : l1.length ≤ c1) (h : checksum_Extend.f a0 l1 = some r) :
    Calls Tryd.prog 51 #[.int .u32 a0, .slice A1 l1.length c1] w fun e w' => e = .returned (.int .u32 r) ∧ Below w.heap.size w w' := by
  obtain rfl := Option.some.inj h
  clear h
  have HR := aK ab
  clear ab
  have hm : (l1.length : Int) ≤ 9223372036854775807 := by have := HR.out.2.1; omega
  have hsz : (Tryd.prog.info? 89).map (·.size) = some (tabA 16).size := by rw [tabA_size]; kernel_rfl
  have HZ := aK hsz
  clear hsz
  have hsg : IntKind.u32.signed = false := rfl
  have hmx : IntKind.u32.max = 4294967295 := rfl
  go_enter Tryd.func51, Tryd.ntmps51
  go_wp2_with fail
  refine (checksum_table.calls _).mono ?_
  rintro e w1 ⟨rfl, hb⟩
  have HB := aK (hb.alloc hb.size (.cells #[Value.int IntKind.u32 0, Value.int IntKind.u32 0, Value.int IntKind.u32 0, Value.int IntKind.u32 0, Value.int IntKind.u32 0, Value.int IntKind.u32 0, Value.int IntKind.u32 0, Value.int IntKind.u32 0, Value.int IntKind.u32 0, Value.int IntKind.u32 0, Value.int IntKind.u32 0, Value.int IntKind.u32 0, Value.int IntKind.u32 0, Value.int IntKind.u32 0, Value.int IntKind.u32 0, Value.int IntKind.u32 0] 89))
  have H5 := aK (heap_alloc_new w1 (.cells #[Value.int IntKind.u32 0, Value.int IntKind.u32 0, Value.int IntKind.u32 0, Value.int IntKind.u32 0, Value.int IntKind.u32 0, Value.int IntKind.u32 0, Value.int IntKind.u32 0, Value.int IntKind.u32 0, Value.int IntKind.u32 0, Value.int IntKind.u32 0, Value.int IntKind.u32 0, Value.int IntKind.u32 0, Value.int IntKind.u32 0, Value.int IntKind.u32 0, Value.int IntKind.u32 0, Value.int IntKind.u32 0] 89))
  have HS := aK hb.size
  clear hb
  go_wp2_with (first | (refine wpList_store_row rfl 89 (.tmp 5) (.tmp 9) rfl w1.heap.size (tabA 16) rfl rfl 89 _ H5.out HZ.out (by rw [tabA_size]; rfl) tabA_one ?_))
  have H6 := aK (setRow_heap _ _ _ (tabA 16) _ _ H5.out)
  have aa := aK (show Below w.heap.size w ((w1.alloc (.cells #[Value.int IntKind.u32 0, Value.int IntKind.u32 0, Value.int IntKind.u32 0, Value.int IntKind.u32 0, Value.int IntKind.u32 0, Value.int IntKind.u32 0, Value.int IntKind.u32 0, Value.int IntKind.u32 0, Value.int IntKind.u32 0, Value.int IntKind.u32 0, Value.int IntKind.u32 0, Value.int IntKind.u32 0, Value.int IntKind.u32 0, Value.int IntKind.u32 0, Value.int IntKind.u32 0, Value.int IntKind.u32 0] 89)).setRow w1.heap.size (tabA 16)) from ⟨HB.out.os, HB.out.tape, HB.out.output, by simpa using HB.out.size, fun i hi => (setRow_other _ _ _ _ (Nat.ne_of_lt (Nat.lt_of_lt_of_le hi HS.out))).trans (HB.out.block i hi)⟩)
  generalize (w1.alloc (.cells #[Value.int IntKind.u32 0, Value.int IntKind.u32 0, Value.int IntKind.u32 0, Value.int IntKind.u32 0, Value.int IntKind.u32 0, Value.int IntKind.u32 0, Value.int IntKind.u32 0, Value.int IntKind.u32 0, Value.int IntKind.u32 0, Value.int IntKind.u32 0, Value.int IntKind.u32 0, Value.int IntKind.u32 0, Value.int IntKind.u32 0, Value.int IntKind.u32 0, Value.int IntKind.u32 0, Value.int IntKind.u32 0] 89)).setRow w1.heap.size (tabA 16) = W at H6 aa ⊢
  generalize w1.heap.size = g at H6 ⊢
  clear H5 HB
  go_loop [6, 14] (fun x j => ∃ n : Nat, x = .int .u32 ((l1.take n).foldl crcIn (Go.bits .xor .u32 4294967295 a0)) ∧ j = .int .i64 n ∧ Aside0 (n ≤ l1.length)) (fun _ j => l1.length - (intOf j).toNat)
  case atStart =>
    exact ⟨0, rfl, rfl, ⟨Nat.zero_le _⟩⟩
  case round =>
    obtain ⟨n, rfl, rfl, hn⟩ := hrel
    by_cases hlt : (n : Int) < (l1.length : Int)
    · have hd : decide ((n : Int) < (l1.length : Int)) = true := decide_eq_true hlt
      have ac : decide (n < l1.length) = true := decide_eq_true (by omega)
      have ae : 0 ≤ (n : Int) := by omega
      have hfold := foldl_take l1 (Go.bits .xor .u32 4294967295 a0) n (by omega)
      have HF := aK hfold
      clear hfold
      generalize hx : (l1.take n).foldl crcIn (Go.bits .xor .u32 4294967295 a0) = x at HF ⊢
      clear hx
      obtain ⟨ad, e1, af⟩ := Kd.at_int (Kd.C_below HR.out aa.out) (n : Int) ae (by omega)
      cases e1
      rw [Int.toNat_natCast] at af
      have b1 := and15 (Go.bits .xor .u32 x (rd l1 n % 4294967296))
      have b2 := and15 (crcHalf (Go.bits .xor .u32 x (rd l1 n % 4294967296)))
      have ai : W.cell? ⟨g, (Go.bits .and .u32 (Go.bits .xor .u32 x (rd l1 n % 4294967296)) 15).toNat, none⟩ = some (.int .u32 (tabZ (Go.bits .and .u32 (Go.bits .xor .u32 x (rd l1 n % 4294967296)) 15))) := by
        rw [blk_cell H6.out]; exact tabA_get _ b1.1 b1.2
      have ag : W.cell? ⟨g, (Go.bits .and .u32 (crcHalf (Go.bits .xor .u32 x (rd l1 n % 4294967296))) 15).toNat, none⟩ = some (.int .u32 (tabZ (Go.bits .and .u32 (crcHalf (Go.bits .xor .u32 x (rd l1 n % 4294967296))) 15))) := by
        rw [blk_cell H6.out]; exact tabA_get _ b2.1 b2.2
      have aj := bits_nonneg_u32 .xor x (rd l1 n % 4294967296)
      unfold crcHalf at ag b2
      go_wp2
      go_round
      case rel => exact ⟨n + 1, by rw [HF.out]; rfl, by go_num, ⟨by omega⟩⟩
      case measure => simp [intOf]; omega
    · have hd : decide ((n : Int) < (l1.length : Int)) = false := decide_eq_false hlt
      have ac : decide (n < l1.length) = false := decide_eq_false (by omega)
      obtain rfl : n = l1.length := by have := hn.out; omega
      rw [List.take_length]
      go_wp2
      go_ret
      exact ⟨rfl, aa.out⟩

end Go.Proofs.YtmgliocboeifdaaDoor.K
