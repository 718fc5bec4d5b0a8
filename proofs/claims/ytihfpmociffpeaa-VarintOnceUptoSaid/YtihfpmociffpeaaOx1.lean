import Derived.Test.YtihfpmociffpeaaOx0
namespace Go.Proofs.Ytihfpmociffpeaa.O
open Go.RowKit Go.Proofs.YtihfpmociffpeaaW.PrintWords Go.Proofs.YtihfpmociffpeaaW.PrintLast Go.Proofs.YtihfpmociffpeaaW.PrintMore
set_option maxHeartbeats 4000000
set_option maxRecDepth 100000
attribute [local go_sem] max2_int min2_int max_two min_two max_three min_three max_four min_four
set_option linter.unusedVariables false
set_option linter.unusedSimpArgs false

/-! ### varint_Put: function 17 (by hand) -/
/-- The digits to the base 128, the lowest one first. -/
def enc7 : Nat → Int → List Int
  | 0, _ => []
  | k + 1, x => if x ≥ 128 then (x % 128 + 128) :: enc7 k (x / 128) else [x]
def varint_Put.f (l0 : List Int) (a1 : Int) : Option (List Int) := if l0.length + 10 < 140737488355328 then some (l0 ++ enc7 10 (IntKind.u64.wrap (mx a1 0))) else none
def varint_Put.l0 : Nat → List Int → Int → Option (List Int)
  | 0, _, _ => none
  | k + 1, x5, x6 => if x6 ≥ 128 then (if x5.length < 140737488355328 then (varint_Put.l0 k (x5 ++ [Go.bits .or .u8 (x6 % 256) 128]) (x6 / 128)) else (none)) else (if x5.length < 140737488355328 then (some (x5 ++ [x6 % 256])) else (none))
theorem bits_or128 (x : Int) (h0 : 0 ≤ x) : Go.bits .or .u8 (x % 256) 128 = x % 128 + 128 := by
  have h : ∀ a : Fin 256, Go.bits .or .u8 (a.val : Int) 128 = (a.val : Int) % 128 + 128 := by decide +kernel
  have h1 := h ⟨(x % 256).toNat, by omega⟩
  simp only at h1
  rw [show (((x % 256).toNat : Nat) : Int) = x % 256 from by omega] at h1
  rw [h1]; omega
theorem varint_Put.l0_enc (k : Nat) : ∀ (x5 : List Int) (x6 : Int), 0 ≤ x6 → x6 < 128 ^ (k + 1) → x5.length + k + 1 < 140737488355328 → varint_Put.l0 (k + 1) x5 x6 = some (x5 ++ enc7 (k + 1) x6) := by
  induction k with
  | zero =>
    intro x5 x6 h0 h1 h2
    have hn : ¬ x6 ≥ 128 := by omega
    rw [varint_Put.l0, enc7, if_neg hn, if_neg hn, if_pos (show x5.length < 140737488355328 by omega), show x6 % 256 = x6 from by omega]
  | succ k ih =>
    intro x5 x6 h0 h1 h2
    rw [varint_Put.l0, enc7]
    by_cases h : x6 ≥ 128
    · rw [if_pos h, if_pos h, if_pos (show x5.length < 140737488355328 by omega), bits_or128 x6 h0, ih _ _ (by omega) (by rw [Int.pow_succ] at h1; omega) (by simp; omega)]
      simp
    · rw [if_neg h, if_neg h, if_pos (show x5.length < 140737488355328 by omega), show x6 % 256 = x6 from by omega]
theorem wrap_u64_range (x : Int) : 0 ≤ IntKind.u64.wrap x ∧ IntKind.u64.wrap x < 18446744073709551616 := by
  simp [IntKind.wrap, IntKind.bits, IntKind.signed]; omega
theorem varint_Put.of_f {l0 : List Int} {a1 : Int} {r : List Int} (h : varint_Put.f l0 a1 = some r) : varint_Put.l0 10 l0 (IntKind.u64.wrap (mx a1 0)) = some r := by
  unfold varint_Put.f at h
  split at h
  · rw [varint_Put.l0_enc 9 l0 _ (wrap_u64_range _).1 (Int.lt_of_lt_of_le (wrap_u64_range _).2 (by decide)) (by omega)]; exact h
  · cases h
/-- A row of the call's own, or one that came in and has no room behind it. -/
def SrcU8 (w0 W : World) (v : Value) (xs : List Int) : Prop :=
  Kd.R (Kd.int .u8) 5 W w0.heap.size (fun _ => True) v xs ∨ ∃ A, v = .slice A xs.length xs.length ∧ (A = none → xs.length = 0) ∧ Kd.C (Kd.int .u8) W A xs.length xs
theorem src_below {w0 W W1 : World} {v : Value} {xs : List Int} (h : SrcU8 w0 W v xs) (hb : Below W.heap.size W W1) : SrcU8 w0 W1 v xs := by
  rcases h with h | ⟨A, h1, h2, h3⟩
  · exact .inl (Kd.R_below h hb)
  · exact .inr ⟨A, h1, h2, Kd.C_below h3 hb⟩
section
variable {P : Program} {ops : Array Oper} {rest : List Oper} {o : Oper} {a : Act} {Q : Exit → Act → World → Prop}
theorem src_append {w0 W : World} (hgd : o.guard = none) (s x : Operand) (t : TypeId)
    (ho : o.op = .call { callee := .builtin .append, args := #[s, x], argTypes := #[t, t] })
    (ht : P.underlying t = some (.slice 5)) (hinfo : (P.info? 5).map (fun i => (i.zero, i.size, i.bytes)) = some (some (.int .u8 0), 1, 1))
    (v : Value) (xs : List Int) (p : Int) (hs : a.eval s = v) (hx : a.eval x = .slice (some ⟨W.heap.size, 0, none⟩) 1 1)
    (HO : SrcU8 w0 W v xs) (HB : Below w0.heap.size w0 W) (hl : xs.length < 140737488355328)
    (h : ∀ v1 w1, Kd.R (Kd.int .u8) 5 w1 w0.heap.size (fun _ => True) v1 (xs ++ [p]) → Below w0.heap.size w0 w1 → wpList P ops Q rest (a.put o.dst v1) w1) :
    wpList P ops Q (o :: rest) a (W.alloc (.cells #[.int .u8 p] 5)) := by
  rcases HO with HO | ⟨A, rfl, hA, hC⟩
  · exact Kd.R_append (Kd.int .u8) (w0 := w0) w0.heap.size hgd s x t 5 (.int .u8 0) 1 ho ht hinfo rfl (by decide) (by omega) v xs p [.int .u8 p] (fun _ => True) (fun _ => False) hs hx rfl (fun _ hk => hk.elim) (fun _ _ => trivial) HO HB HB.size (by omega) (fun v1 w1 h1 h2 _ _ => h v1 w1 h1 h2)
  · obtain ⟨i0, hi, hzz⟩ := Option.map_eq_some_iff.1 hinfo
    simp only [Prod.mk.injEq] at hzz
    obtain ⟨hz0, hz1, hz2⟩ := hzz
    have hC' := readsInt_of.2 (Kd.reads_of_C (enc := Value.int .u8) (d := (0 : Int)) (h1 := fun _ => rfl) hC)
    refine wpList_append_grows (W.alloc (.cells #[.int .u8 p] 5)) hgd s x t ho 5 i0 (.int .u8 0) 1 1 ht hi hz0 hz1 hz2 rfl (by decide) A xs.length xs.length (nums .u8 xs) hs (fun e => ⟨hA e, hA e⟩) (by simp [nums_length])
      (fun b hb j u hj => ?_) ⟨W.heap.size, 0, none⟩ 1 1 [.int .u8 p] hx rfl
      (by simpa using World.news_of_block (cs := #[.int .u8 p]) (t := 5) (fr := (0, 0)) (heap_alloc_new W (.cells #[.int .u8 p] 5))) (by simp [Value.oneCell']) (by omega) (by simp only [maxLen]; omega) (by omega) ?_
    · have hjl : j < xs.length := by
        have := (List.getElem?_eq_some_iff.1 hj).1
        simpa [nums_length] using this
      obtain ⟨ad, e, hc⟩ := hC'.2.2 (by omega)
      subst hb
      cases e
      have h1 := hc j hjl
      have h2 : u = .int .u8 (xs.getD j 0) := by
        simp [nums, List.getElem?_eq_getElem hjl] at hj
        rw [← hj, List.getD_eq_getElem?_getD, List.getElem?_eq_getElem hjl]; rfl
      rw [h2]
      exact (Below.cell ((Below.refl W.heap.size W).alloc (Nat.le_refl _) _) (World.block_lt_of_cell? W _ h1)).trans h1
    · intro v' w' hown hg
      have hown' : w'.ownsRow w0.heap.size 5 1 v' (xs ++ [p]).length (encs (Value.int .u8) (xs ++ [p])) := by
        have : encs (Value.int .u8) (xs ++ [p]) = nums .u8 xs ++ [.int .u8 p] := by simp [encs, nums]
        rw [this, List.length_append, List.length_singleton]
        exact own_weaken hown (by have := HB.size; simp; omega)
      refine h v' w' (Kd.R_of_own hown' (fun _ _ => trivial)) ?_
      exact (HB.alloc HB.size _).grown hg (by have := HB.size; simp; omega) (fun k hk => by cases hk)
end
set_option maxHeartbeats 8000000 in
theorem varint_Put.calls (A0 : Option Addr) (c0 : Nat) (l0 : List Int) (a1 : Int) (r : List Int) (w : World) (am : Kd.C (Kd.int .u8) w A0 l0.length l0) (an : l0.length ≤ c0) (h : varint_Put.f l0 a1 = some r) :
    Calls Try.prog 17 #[.slice A0 l0.length c0, .int .i64 a1] w fun e w' => ∃ ao : Value, e = .returned (ao) ∧ Kd.R (Kd.int .u8) 5 w' w.heap.size (fun _ => True) ao r ∧ Below w.heap.size w w' := by
  have ap := aK am
  have ar := aK an
  clear am an
  have HB := aK (Below.refl w.heap.size w)
  have H : (varint_Put.l0 10 l0 (IntKind.u64.wrap (mx a1 0))) = some r := varint_Put.of_f h
  clear h
  have H' := aK H
  clear H
  have hcc := ar.out
  have au : (l0.length : Int) ≤ (c0 : Int) := by omega
  clear hcc
  obtain ⟨ji, hji⟩ : ∃ j_ : Int, (mx a1 0) = j_ := ⟨_, rfl⟩
  rw [hji] at H'
  have hji_ : (if a1 < 0 then 0 else a1) = ji := hji
  clear hji
  go_enter Try.func17, Try.ntmps17
  go_wp2
  go_loopg [5, 6] 10 (fun kq v5 v6 w' => ∃ (aa : List Int) (ab : Int), v6 = .int .u64 ab ∧ Aside0 (varint_Put.l0 kq aa ab = some r) ∧ Aside0 (kq ≤ 10) ∧ Aside0 (SrcU8 w w' v5 aa) ∧ Aside0 (Below w.heap.size w w'))
  case atStart =>
    refine ⟨l0, IntKind.u64.wrap ji, rfl, H', ⟨Nat.le_refl _⟩, ⟨.inr ⟨A0, rfl, fun e => ?_, ap.out⟩⟩, HB⟩
    rcases Nat.eq_zero_or_pos l0.length with hl | hl
    · exact hl
    · obtain ⟨ad, ea, _⟩ := ap.out.2.2 hl
      rw [e] at ea
      cases ea
  case round =>
    clear H'
    obtain ⟨aa, ab, rfl, HA, aq, ae, HB⟩ := hrel
    cases gk with
    | zero => exact absurd HA.out (by simp [varint_Put.l0])
    | succ k1 =>
      have H := HA.out
      clear HA
      simp only [varint_Put.l0] at H
      by_cases c3 : ab ≥ 128
      · rw [if_pos c3] at H
        have aj := decide_eq_true c3
        clear c3
        by_cases c5 : aa.length < 140737488355328
        · rw [if_pos c5] at H
          have af := aK c5
          clear c5
          obtain ⟨y1, ag⟩ : ∃ y_ : List Int, y_ = aa ++ [Go.bits .or .u8 (ab % 256) 128] := ⟨_, rfl⟩
          rw [← ag] at H
          have ak := aK ag
          clear ag
          have H' := aK H
          clear H
          go_wp2_with (first | ((with_reducible refine gate_builtin (b := .append) (xs := #[.tmp 18, .tmp 22]) rfl ?_); at_builtin; refine src_append (w0 := w) rfl (.tmp 18) (.tmp 22) 22 rfl Try.underlying22 info5 u5 aa (Go.bits .or .u8 (ab % 256) 128) rfl rfl ?aO ?aB ?aL ?_; (case aB => exact HB.out); (case aO => exact ae.out); (case aL => exact af.out); intro al w6 ho hb; rw [← ak.out] at ho; have ah := aK (hb); have ai := aK (ho); clear HB; clear ae; have HB := ah; have ac := ai; clear ah ai; clear ho hb))
          go_roundg k1
          case measure => have := aq.out; omega
          case rel => exact ⟨y1, _, rfl, H', ⟨by have := aq.out; omega⟩, ⟨.inl ac.out⟩, HB⟩
        · rw [if_neg c5] at H
          exact absurd H (by simp)
      · rw [if_neg c3] at H
        have aj := decide_eq_false c3
        clear c3
        by_cases c5 : aa.length < 140737488355328
        · rw [if_pos c5] at H
          have af := aK c5
          clear c5
          obtain ⟨y1, ag⟩ : ∃ y_ : List Int, y_ = aa ++ [ab % 256] := ⟨_, rfl⟩
          rw [← ag] at H
          have ak := aK ag
          clear ag
          have H' := aK H
          clear H
          go_wp2_with (first | ((with_reducible refine gate_builtin (b := .append) (xs := #[.tmp 26, .tmp 29]) rfl ?_); at_builtin; refine src_append (w0 := w) rfl (.tmp 26) (.tmp 29) 22 rfl Try.underlying22 info5 u5 aa (ab % 256) rfl rfl ?aO ?aB ?aL ?_; (case aB => exact HB.out); (case aO => exact ae.out); (case aL => exact af.out); intro al w6 ho hb; rw [← ak.out] at ho; have ah := aK (hb); have ai := aK (ho); clear HB; clear ae; have HB := ah; have ac := ai; clear ah ai; clear ho hb))
          obtain rfl := Option.some.inj H'.out
          go_ret
          exact ⟨_, rfl, ac.out, HB.out⟩
        · rw [if_neg c5] at H
          exact absurd H (by simp)

/-! ### varint_PutString: function 19 -/
def varint_PutString.f (l0 : List Int) (a1 : ByteArray) : Option (List Int) := (varint_Put.f l0 (a1.size : Int)).bind fun aa => (if aa.length + a1.size < 140737488355328 then (some (aa ++ bytesOf a1)) else (none))
theorem varint_PutString.calls (A0 : Option Addr) (c0 : Nat) (l0 : List Int) (a1 : ByteArray) (r : List Int) (w : World) (an : Kd.C (Kd.int .u8) w A0 l0.length l0) (ao : l0.length ≤ c0) (h : varint_PutString.f l0 a1 = some r) :
  Calls Try.prog 19 #[.slice A0 l0.length c0,.string a1] w fun e w' => ∃ ap : Value,e = .returned (ap) ∧ Kd.R (Kd.int .u8) 5 w' w.heap.size (fun _ => True) ap r ∧ Below w.heap.size w w' := by
 have ar := aK an
 have au := aK ao
 clear an ao
 have HB := aK (Below.refl w.heap.size w)
 have H : ((varint_Put.f l0 (a1.size : Int)).bind fun ab => (if ab.length + a1.size < 140737488355328 then (some (ab ++ bytesOf a1)) else (none))) = some r := h
 clear h
 replace H := Option.bind_eq_some_iff.mp H
 obtain ⟨ab,aq,H⟩ := H
 have A3 := aK aq
 clear aq
 by_cases c4 : ab.length + a1.size < 140737488355328
 ·rw [if_pos c4] at H
  have aj := aK c4
  clear c4
  obtain ⟨ac,aa⟩ : ∃ y_ : List Int,y_ = (ab ++ bytesOf a1) := ⟨_,rfl⟩
  replace H : (some ac) = some r := by first|(rw [aa];with_reducible exact H)|(have ak := (Option.bind_some _ _).symm.trans H;rw [aa];with_reducible exact ak)|(have ak := (Option.bind_some _ _).symm.trans H;with_reducible exact ak)|with_reducible exact H|(rw [aa];exact H)|exact H
  have ad := aK aa
  clear aa
  obtain rfl := Option.some.inj H
  go_enter Try.func19,Try.ntmps19
  go_wp2_with (first|((with_reducible refine gate_callee (f := 17) rfl ?_);refine gL 8 Try.func17 #[.slice A0 l0.length c0,.int .i64 (a1.size : Int)] ?_;(with_reducible refine (varint_Put.calls _ _ l0 (a1.size : Int) ab _ ?ae ?af A3.out).mono ?_);(case ae => exact cM ar.out);(case af => exact au.out);rintro e w5 ⟨al,rfl,ag,hb⟩;refine ⟨_,rfl,?_⟩;have ah := aK (Kd.R_lower ag (below_size (bM HB.out)));replace HB := aK (below_step (bM HB.out) hb);(try clear hb);(try clear ag))|(at_builtin;refine print_append_str (w0 := w) w.heap.size rfl (.tmp 8) _ 22 9 5 rfl Try.underlying22 Try.underlying9 info5 al ab a1 rfl rfl ?aO ?aB ?aS ?aL ?_;(case aB => exact (bM HB.out));(case aO => exact (Kd.own_of_R (rM ah.out)));(case aS => exact (below_size (bM HB.out)));(case aL => have := aj.out;omega);intro am w6 ag hb hg;have ho := Kd.R_of_own (h1 := fun _ => rfl) (ok := fun _ => True) ag (fun _ _ => trivial);clear ag;have hat := True.intro;rw [← ad.out] at ho;change Kd.R (Kd.int .u8) 5 w6 w.heap.size (fun _ => True) am ac at ho;replace HB := aK (hb);have ai := aK (ho);clear ho hb hg hat))
  go_ret
  exact ⟨_,by first|rfl|(simp [errW_none,errW_some] <;> rfl)|(simp [*,errW_none,errW_some] <;> rfl),rM ai.out,bM HB.out⟩
 ·rw [if_neg c4] at H
  exact absurd H (by simp)

/-! ### varint_width: function 41 -/
def varint_width.l0 : Nat → List Int → Int → Int → Option (Int)
|0,_,_,_ => none
|k + 1,x0,x5,x6 => if x6 < x5 then (if 0 ≤ x6 then (if x6 < (x0.length : Int) then (if (rd x0 x6) < 128 then (some (wrap64 (x6 + 1))) else (varint_width.l0 k x0 x5 (wrap64 (x6 + 1)))) else (none)) else (none)) else (some 0)
def varint_width.f (k : Nat) (l0 : List Int) : Option (Int) := varint_width.l0 k l0 (l0.length : Int) 0
theorem varint_width.mono_l : ∀ k, (∀ y0 y1 y2, LeO (varint_width.l0 k y0 y1 y2) (varint_width.l0 (k + 1) y0 y1 y2))
|0 => fun _ _ _ r h => by simp [varint_width.l0] at h
|k + 1 => by
  have ih0 := varint_width.mono_l k
  ·intro y0 y1 y2
   unfold varint_width.l0
   repeat' (with_reducible first|exact ih0 _ _ _|exact LeO.refl _|exact LeO.none _|refine LeO.ite ?_ ?_|refine LeO.bind ?_ (fun _ => ?_))
theorem varint_width.mono : ∀ a0 k, LeO (varint_width.f k a0) (varint_width.f (k + 1) a0) := by
 intro a0 k
 have ih0 := varint_width.mono_l k
 unfold varint_width.f
 repeat' (with_reducible first|exact ih0 _ _ _|exact LeO.refl _|exact LeO.none _|refine LeO.ite ?_ ?_|refine LeO.bind ?_ (fun _ => ?_))
theorem varint_width.calls (k : Nat) (A0 : Option Addr) (c0 : Nat) (l0 : List Int) (r : Int) (w : World) (ai : Kd.C (Kd.int .u8) w A0 l0.length l0) (aj : l0.length ≤ c0) (h : varint_width.f k l0 = some r) :
  Calls Try.prog 41 #[.slice A0 l0.length c0] w fun e w' => e = .returned (.int .i64 r) ∧ Drawn0 w w' := by
 have ak := aK ai
 have ao := aK aj
 clear ai aj
 have H : (varint_width.l0 k l0 (l0.length : Int) 0) = some r := h
 clear h
 have H' := aK H
 clear H
 go_enter Try.func41,Try.ntmps41
 go_wp2
 go_loopg [6] k (fun kq v6 w' => ∃ (aa : Int),v6 = .int .i64 aa ∧ Aside0 (varint_width.l0 kq l0 (l0.length : Int) aa = some r) ∧ Aside0 (kq ≤ k) ∧ Drawn0 w w')
 case atStart => exact ⟨(0),(by first|rfl|(simp;done)|(simp [*];done)),H',⟨Nat.le_refl _⟩,by repeat (first|exact Drawn0.refl _|apply Drawn0.step)⟩
 case round =>
  clear H'
  obtain ⟨aa,rfl,HA,al,⟨m1,rfl⟩⟩ := hrel
  cases gk with
 |zero => exact absurd HA.out (by simp [varint_width.l0])
 |succ k1 =>
   have H := HA.out
   clear HA
   simp only [varint_width.l0] at H
   by_cases c2 : aa < (l0.length : Int)
   ·rw [if_pos c2] at H
    have ag := decide_eq_true c2
    clear c2
    obtain ⟨c3,H⟩ := iS H
    have am := decide_eq_true c3
    clear c3
    obtain ⟨c4,H⟩ := iS H
    have an := decide_eq_true c4
    clear c4
    by_cases c5 : (rd l0 aa) < 128
    ·rw [if_pos c5] at H
     have ah := decide_eq_true c5
     clear c5
     obtain rfl := Option.some.inj H
     have ab : 0 ≤ (aa : Int) := dA
     have ac : aa < (l0.length : Int) := dA
     obtain ⟨af,ae,ad⟩ := Kd.at_int ak.out aa ab ac
     cases ae
     replace ab := eq_true ab
     replace ac := eq_true ac
     go_wp2
     go_ret
     exact ⟨by first|rfl|(simp;done)|(simp [*];done),by repeat (first|exact Drawn0.refl _|apply Drawn0.step)⟩
    ·rw [if_neg c5] at H
     have ah := decide_eq_false c5
     clear c5
     have H' := aK H
     clear H
     have ab : 0 ≤ (aa : Int) := dA
     have ac : aa < (l0.length : Int) := dA
     obtain ⟨af,ae,ad⟩ := Kd.at_int ak.out aa ab ac
     cases ae
     replace ab := eq_true ab
     replace ac := eq_true ac
     go_wp2
     go_roundg k1
     case measure => have := al.out;omega
     case rel => exact ⟨(wrap64 (aa + 1)),(by first|rfl|(simp;done)|(simp [*];done)),H',⟨by have := al.out;omega⟩,by repeat (first|exact Drawn0.refl _|apply Drawn0.step)⟩
   ·rw [if_neg c2] at H
    have ag := decide_eq_false c2
    clear c2
    obtain rfl := Option.some.inj H
    go_wp2
    go_ret
    exact ⟨by first|rfl|(simp;done)|(simp [*];done),by repeat (first|exact Drawn0.refl _|apply Drawn0.step)⟩

/-! ### varint_Get: function 21 -/
mutual
def varint_Get.j0 : Nat → List Int → Int → Bool → Option (Int × Int × Int)
|0,_,_,_ => none
|k + 1,x0,x1,ab => if ab = true then (some (0,0,2)) else (if 0 ≤ x1 then (if x1 ≤ (x0.length : Int) then ((varint_width.f k (x0.drop (x1 : Int).toNat)).bind fun aa => (if aa = 0 then (some (0,0,5)) else (if aa > 9 then (some (0,0,4)) else (varint_Get.l0 k x0 x1 aa 0 aa 0)))) else (none)) else (none))
def varint_Get.l0 : Nat → List Int → Int → Int → Int → Int → Int → Option (Int × Int × Int)
|0,_,_,_,_,_,_ => none
|k + 1,x0,x1,x7,x8,ab,aa => if aa < ab then (if 0 ≤ (wrap64 (x1 + aa)) then (if (wrap64 (x1 + aa)) < (x0.length : Int) then (if 0 ≤ (wrap64 (7 * aa)) then (varint_Get.l0 k x0 x1 x7 (Go.bits .or .u64 x8 (shl .u64 (IntKind.u64.wrap (Go.bits .and .u8 (rd x0 (wrap64 (x1 + aa))) 127)) (wrap64 (7 * aa)))) ab (wrap64 (aa + 1))) else (none)) else (none)) else (none)) else (if x8 > 4611686018427387904 then (some (0,0,4)) else (if x7 > 1 then (if 0 ≤ (wrap64 ((wrap64 (x1 + x7)) - 1)) then (if (wrap64 ((wrap64 (x1 + x7)) - 1)) < (x0.length : Int) then (if (rd x0 (wrap64 ((wrap64 (x1 + x7)) - 1))) = 0 then (some (0,0,3)) else (some (wrap64 (x8),wrap64 (x1 + x7),0))) else (none)) else (none)) else (some (wrap64 (x8),wrap64 (x1 + x7),0))))
end
def varint_Get.f (k : Nat) (l0 : List Int) (a1 : Int) : Option (Int × Int × Int) := if a1 < 0 then (varint_Get.j0 k l0 a1 true) else (varint_Get.j0 k l0 a1 (decide (a1 > (l0.length : Int))))
theorem varint_Get.mono_l : ∀ k, (∀ y0 y1 y2, LeO (varint_Get.j0 k y0 y1 y2) (varint_Get.j0 (k + 1) y0 y1 y2)) ∧ (∀ y0 y1 y2 y3 y4 y5, LeO (varint_Get.l0 k y0 y1 y2 y3 y4 y5) (varint_Get.l0 (k + 1) y0 y1 y2 y3 y4 y5))
|0 => ⟨fun _ _ _ r h => by simp [varint_Get.j0] at h,fun _ _ _ _ _ _ r h => by simp [varint_Get.l0] at h⟩
|k + 1 => by
  obtain ⟨ih0,ih1⟩ := varint_Get.mono_l k
  refine ⟨?_,?_⟩
  ·intro y0 y1 y2
   unfold varint_Get.j0
   repeat' (with_reducible first|exact ih1 _ _ _ _ _ _|exact varint_width.mono _ _|exact LeO.refl _|exact LeO.none _|refine LeO.ite ?_ ?_|refine LeO.bind ?_ (fun _ => ?_))
  ·intro y0 y1 y2 y3 y4 y5
   unfold varint_Get.l0
   repeat' (with_reducible first|exact ih1 _ _ _ _ _ _|exact LeO.refl _|exact LeO.none _|refine LeO.ite ?_ ?_|refine LeO.bind ?_ (fun _ => ?_))
theorem varint_Get.mono : ∀ a0 a1 k, LeO (varint_Get.f k a0 a1) (varint_Get.f (k + 1) a0 a1) := by
 intro a0 a1 k
 obtain ⟨ih0,ih1⟩ := varint_Get.mono_l k
 unfold varint_Get.f
 repeat' (with_reducible first|exact ih0 _ _ _|exact ih1 _ _ _ _ _ _|exact varint_width.mono _ _|exact LeO.refl _|exact LeO.none _|refine LeO.ite ?_ ?_|refine LeO.bind ?_ (fun _ => ?_))
theorem varint_Get.calls (k : Nat) (A0 : Option Addr) (c0 : Nat) (l0 : List Int) (a1 : Int) (r1 : Int) (r2 : Int) (r3 : Int) (w : World) (bj : Kd.C (Kd.int .u8) w A0 l0.length l0) (bk : l0.length ≤ c0) (h : varint_Get.f k l0 a1 = some (r1, r2, r3)) :
  Calls Try.prog 21 #[.slice A0 l0.length c0,.int .i64 a1] w fun e w' => e = .returned (.tuple #[.int .i64 r1,.int .i64 r2,.int .i64 r3]) ∧ Drawn0 w w' := by
 have aI := aK bj
 have a3 := aK bk
 clear bj bk
 have H : (if a1 < 0 then (varint_Get.j0 k l0 a1 true) else (varint_Get.j0 k l0 a1 (decide (a1 > (l0.length : Int))))) = some (r1,r2,r3) := h
 clear h
 have a4 := aK H
 clear H
 go_enter Try.func21,Try.ntmps21
 go_upto_region 1 with (fail)
 go_cut [17] (fun bD wc => ∃ (kq : Nat) (ao : Bool),bD = .bool ao ∧ Aside0 (varint_Get.j0 kq l0 a1 ao = some (r1,r2,r3)) ∧ Aside0 (kq ≤ k) ∧ Drawn0 w wc)
 case first =>
  have H := a4.out
  clear a4
  by_cases c4 : a1 < 0
  ·rw [if_pos c4] at H
   have ap := decide_eq_true c4
   clear c4
   (first|rw [ap]|(simp only [i64_w,i32_w];rw [ap])|rw [c4b1]|skip)
   have H' := aK H
   clear H
   go_wp2
   go_meet
   case rel => exact ⟨_,(true),(by first|rfl|(simp;done)|(simp [*];done)),H',⟨by first|omega|exact Nat.le_refl _⟩,by repeat (first|exact Drawn0.refl _|apply Drawn0.step)⟩
  ·rw [if_neg c4] at H
   have ap := decide_eq_false c4
   clear c4
   (first|rw [ap]|(simp only [i64_w,i32_w];rw [ap])|rw [c4b1]|skip)
   have H' := aK H
   clear H
   go_wp2
   go_meet
   case rel => exact ⟨_,(decide (a1 > (l0.length : Int))),(by first|rfl|(simp;done)|(simp [*];done)),H',⟨by first|omega|exact Nat.le_refl _⟩,by repeat (first|exact Drawn0.refl _|apply Drawn0.step)⟩
 case rest =>
  clear a4
  try clear p2
  obtain ⟨kq,ao,rfl,HA,bl,⟨bN,rfl⟩⟩ := hcut
  cases kq with
 |zero => exact absurd HA.out (by simp [varint_Get.j0])
 |succ kj2 =>
   have H := HA.out
   clear HA
   simp only [varint_Get.j0] at H
   by_cases c5 : ao = true
   ·subst c5
    rw [if_pos rfl] at H
    simp only [Option.some.injEq,Prod.mk.injEq] at H
    obtain ⟨rfl,rfl,rfl⟩ := H
    go_wp2
    go_ret3
    exact ⟨by first|rfl|(simp;done)|(simp [*];done),by repeat (first|exact Drawn0.refl _|apply Drawn0.step)⟩
   ·replace c5 := Bool.eq_false_iff.mpr c5
    subst c5
    rw [if_neg (show ¬ (false = true) by decide)] at H
    by_cases c6 : 0 ≤ a1
    ·rw [if_pos c6] at H
     have a5 := eq_true c6
     have a6 := decide_eq_true c6
     clear c6
     obtain ⟨c7,H⟩ := iS H
     have a7 := eq_true c7
     have a8 := decide_eq_true c7
     clear c7
     replace H := Option.bind_eq_some_iff.mp H
     obtain ⟨ab,bm,H⟩ := H
     have A8 := aK bm
     clear bm
     by_cases c9 : ab = 0
     ·rw [if_pos c9] at H
      have aN := beq_iff_eq.mpr c9
      have aO := bne_eq_false_iff_eq.mpr c9
      clear c9
      simp only [Option.some.injEq,Prod.mk.injEq] at H
      obtain ⟨rfl,rfl,rfl⟩ := H
      obtain ⟨bE,aw,_,ax,_⟩ := info_parts info5
      obtain ⟨bF,a9,aP,aQ⟩ := print_drop_of (P := Try.prog) (Value.int .u8) 0 22 5 .i64 Try.underlying22 aw ax A0 c0 l0 a1 (dA) (dA) a3.out
      have af := aK (Kd.C_of_reads (h1 := fun _ => rfl) (aP _ (Kd.reads_of_C aI.out)))
      have ag := aK aQ
      clear aP aQ aw ax
      go_wp2_with (first|((with_reducible refine gate_callee (f := 41) rfl ?_);refine goesL_ (some 21) rfl rfl Try.func41 (by kernel_rfl) rfl #[.slice bF (l0.drop (a1 : Int).toNat).length (c0 - a1.toNat)] rfl (by (try simp only [z4_,z5_,z6_]);first|done|(rw [show (l0.drop (a1 : Int).toNat).length = (l0.length - a1.toNat) from List.length_drop] <;> rfl)|rfl|(simp only [z7_,z8_];rfl)) ?_;(with_reducible refine (varint_width.calls kj2 _ _ (l0.drop (a1 : Int).toNat) ab _ ?ah ?ai A8.out).mono ?_);(case ah => exact cM af.out);(case ai => exact ag.out);rintro e w' ⟨rfl,⟨nd,rfl⟩⟩;refine ⟨_,rfl,?_⟩))
      go_ret3
      exact ⟨by first|rfl|(simp;done)|(simp [*];done),by repeat (first|exact Drawn0.refl _|apply Drawn0.step)⟩
     ·rw [if_neg c9] at H
      have aN := beq_eq_false_iff_ne.mpr c9
      have aO := bne_iff_ne.mpr c9
      by_cases aD : ab > 9
      ·rw [if_pos aD] at H
       have ay := decide_eq_true aD
       clear aD
       simp only [Option.some.injEq,Prod.mk.injEq] at H
       obtain ⟨rfl,rfl,rfl⟩ := H
       obtain ⟨bH,az,_,aA,_⟩ := info_parts info5
       obtain ⟨bI,ba,aR,aS⟩ := print_drop_of (P := Try.prog) (Value.int .u8) 0 22 5 .i64 Try.underlying22 az aA A0 c0 l0 a1 (dA) (dA) a3.out
       have af := aK (Kd.C_of_reads (h1 := fun _ => rfl) (aR _ (Kd.reads_of_C aI.out)))
       have ag := aK aS
       clear aR aS az aA
       go_wp2_with (first|((with_reducible refine gate_callee (f := 41) rfl ?_);refine goesL_ (some 21) rfl rfl Try.func41 (by kernel_rfl) rfl #[.slice bI (l0.drop (a1 : Int).toNat).length (c0 - a1.toNat)] rfl (by (try simp only [z4_,z5_,z6_]);first|done|(rw [show (l0.drop (a1 : Int).toNat).length = (l0.length - a1.toNat) from List.length_drop] <;> rfl)|rfl|(simp only [z7_,z8_];rfl)) ?_;(with_reducible refine (varint_width.calls kj2 _ _ (l0.drop (a1 : Int).toNat) ab _ ?ah ?ai A8.out).mono ?_);(case ah => exact cM af.out);(case ai => exact ag.out);rintro e w' ⟨rfl,⟨nd,rfl⟩⟩;refine ⟨_,rfl,?_⟩))
       go_ret3
       exact ⟨by first|rfl|(simp;done)|(simp [*];done),by repeat (first|exact Drawn0.refl _|apply Drawn0.step)⟩
      ·rw [if_neg aD] at H
       have ay := decide_eq_false aD
       clear aD
       have H' := aK H
       clear H
       obtain ⟨bJ,aB,_,aC,_⟩ := info_parts info5
       obtain ⟨bK,bb,aT,aU⟩ := print_drop_of (P := Try.prog) (Value.int .u8) 0 22 5 .i64 Try.underlying22 aB aC A0 c0 l0 a1 (dA) (dA) a3.out
       have af := aK (Kd.C_of_reads (h1 := fun _ => rfl) (aT _ (Kd.reads_of_C aI.out)))
       have ag := aK aU
       clear aT aU aB aC
       go_wp2_with (first|((with_reducible refine gate_callee (f := 41) rfl ?_);refine goesL_ (some 21) rfl rfl Try.func41 (by kernel_rfl) rfl #[.slice bK (l0.drop (a1 : Int).toNat).length (c0 - a1.toNat)] rfl (by (try simp only [z4_,z5_,z6_]);first|done|(rw [show (l0.drop (a1 : Int).toNat).length = (l0.length - a1.toNat) from List.length_drop] <;> rfl)|rfl|(simp only [z7_,z8_];rfl)) ?_;(with_reducible refine (varint_width.calls kj2 _ _ (l0.drop (a1 : Int).toNat) ab _ ?ah ?ai A8.out).mono ?_);(case ah => exact cM af.out);(case ai => exact ag.out);rintro e w' ⟨rfl,⟨nd,rfl⟩⟩;refine ⟨_,rfl,?_⟩))
       go_loopg [8,27] kj2 (fun kq v8 bL w' => ∃ (ae : Int) (aa : Int),v8 = .int .u64 ae ∧ bL = .int .i64 aa ∧ Aside0 (varint_Get.l0 kq l0 a1 ab ae ab aa = some (r1,r2,r3)) ∧ Aside0 (kq ≤ kj2) ∧ Drawn0 w w')
       case atStart => exact ⟨(0),(0),(by first|rfl|(simp;done)|(simp [*];done)),(by first|rfl|(simp;done)|(simp [*];done)),H',⟨Nat.le_refl _⟩,by repeat (first|exact Drawn0.refl _|apply Drawn0.step)⟩
       case round =>
        clear H'
        try clear p2
        try clear c5
        try clear c6
        try clear a5
        try clear a6
        try clear c7
        try clear a7
        try clear a8
        try clear c9
        try clear aN
        try clear aO
        try clear aD
        try clear ay
        try clear p2
        obtain ⟨ae,aa,rfl,rfl,HA,bn,⟨m2,rfl⟩⟩ := hrel
        cases gk with
       |zero => exact absurd HA.out (by simp [varint_Get.l0])
       |succ k2 =>
         have H := HA.out
         clear HA
         simp only [varint_Get.l0] at H
         by_cases aJ : aa < ab
         ·rw [if_pos aJ] at H
          have aV := decide_eq_true aJ
          clear aJ
          obtain ⟨ac,aq⟩ : ∃ j_ : Int,(wrap64 (a1 + aa)) = j_ := ⟨_,rfl⟩
          replace H : (if 0 ≤ (ac) then (if (ac) < (l0.length : Int) then (if 0 ≤ (wrap64 (7 * aa)) then (varint_Get.l0 k2 l0 a1 ab (Go.bits .or .u64 ae (shl .u64 (IntKind.u64.wrap (Go.bits .and .u8 (rd l0 (ac)) 127)) (wrap64 (7 * aa)))) ab (wrap64 (aa + 1))) else (none)) else (none)) else (none)) = some (r1,r2,r3) := by first|(rw [aq] at H;exact H)|(simp only [aq] at H ⊢;exact H)
          have bc : (IntKind.i64.wrap (a1 + aa)) = ac := (i64_w _).trans aq
          obtain ⟨bo,H⟩ := iS H
          have bp := decide_eq_true bo
          clear bo
          obtain ⟨bq,H⟩ := iS H
          have br := decide_eq_true bq
          clear bq
          obtain ⟨al,ar⟩ : ∃ j_ : Int,(wrap64 (7 * aa)) = j_ := ⟨_,rfl⟩
          replace H : (if 0 ≤ (al) then (varint_Get.l0 k2 l0 a1 ab (Go.bits .or .u64 ae (shl .u64 (IntKind.u64.wrap (Go.bits .and .u8 (rd l0 (ac)) 127)) (al))) ab (wrap64 (aa + 1))) else (none)) = some (r1,r2,r3) := by first|(rw [ar] at H;exact H)|(simp only [ar] at H ⊢;exact H)
          have bd : (IntKind.i64.wrap (7 * aa)) = al := (i64_w _).trans ar
          obtain ⟨be,H⟩ := iS H
          have bs := eq_true be
          have bu := decide_eq_true be
          clear be
          obtain ⟨au,aj⟩ : ∃ j_ : Int,(shl .u64 (IntKind.u64.wrap (Go.bits .and .u8 (rd l0 (ac)) 127)) (al)) = j_ := ⟨_,rfl⟩
          replace H : (varint_Get.l0 k2 l0 a1 ab (Go.bits .or .u64 ae (au)) ab (wrap64 (aa + 1))) = some (r1,r2,r3) := by first|(rw [aj] at H;exact H)|(simp only [aj] at H ⊢;exact H)
          have bf : (IntKind.u64.wrap ((IntKind.u64.wrap (Go.bits .and .u8 (rd l0 (ac)) 127)) * 2 ^ min (al).toNat 64)) = au := aj
          have bg : (al) ≤ 64 → (IntKind.u64.wrap ((IntKind.u64.wrap (Go.bits .and .u8 (rd l0 (ac)) 127)) * 2 ^ (al).toNat)) = au := shl_small aj
          have H' := aK H
          clear H
          have aE : 0 ≤ ((ac) : Int) := dA
          have aF : (ac) < (l0.length : Int) := dA
          obtain ⟨bv,bh,a2⟩ := Kd.at_int aI.out (ac) aE aF
          cases bh
          replace aE := eq_true aE
          replace aF := eq_true aF
          go_wp2
          go_roundg k2
          case measure => have := bl.out;have := bn.out;omega
          case rel => exact ⟨(Go.bits .or .u64 ae (au)),(wrap64 (aa + 1)),(by first|rfl|(simp;done)|(rw [Int.tdiv_eq_ediv_of_nonneg (by assumption)];done)|(rw [Int.tmod_eq_emod_of_nonneg (by assumption)];done)|(simp only [← aj] <;> (first|rfl|simp))|(simp [*];done)),(by first|rfl|(simp;done)|(simp [*];done)),H',⟨by have := bl.out;have := bn.out;omega⟩,by repeat (first|exact Drawn0.refl _|apply Drawn0.step)⟩
         ·rw [if_neg aJ] at H
          have aV := decide_eq_false aJ
          clear aJ
          by_cases aL : ae > 4611686018427387904
          ·rw [if_pos aL] at H
           have aW := decide_eq_true aL
           clear aL
           simp only [Option.some.injEq,Prod.mk.injEq] at H
           obtain ⟨rfl,rfl,rfl⟩ := H
           go_wp2
           go_ret3
           exact ⟨by first|rfl|(simp;done)|(simp [*];done),by repeat (first|exact Drawn0.refl _|apply Drawn0.step)⟩
          ·rw [if_neg aL] at H
           have aW := decide_eq_false aL
           clear aL
           by_cases aM : ab > 1
           ·rw [if_pos aM] at H
            have aX := decide_eq_true aM
            clear aM
            obtain ⟨ad,ak⟩ : ∃ j_ : Int,(wrap64 ((wrap64 (a1 + ab)) - 1)) = j_ := ⟨_,rfl⟩
            replace H : (if 0 ≤ (ad) then (if (ad) < (l0.length : Int) then (if (rd l0 (ad)) = 0 then (some (0,0,3)) else (some (wrap64 (ae),wrap64 (a1 + ab),0))) else (none)) else (none)) = some (r1,r2,r3) := by first|(rw [ak] at H;exact H)|(simp only [ak] at H ⊢;exact H)
            have bi : (IntKind.i64.wrap ((wrap64 (a1 + ab)) - 1)) = ad := (i64_w _).trans ak
            obtain ⟨bx,H⟩ := iS H
            have bz := decide_eq_true bx
            clear bx
            obtain ⟨bB,H⟩ := iS H
            have bC := decide_eq_true bB
            clear bB
            by_cases aG : (rd l0 (ad)) = 0
            ·rw [if_pos aG] at H
             have aY := beq_iff_eq.mpr aG
             have aZ := bne_eq_false_iff_eq.mpr aG
             clear aG
             simp only [Option.some.injEq,Prod.mk.injEq] at H
             obtain ⟨rfl,rfl,rfl⟩ := H
             have am : 0 ≤ ((ad) : Int) := dA
             have an : (ad) < (l0.length : Int) := dA
             obtain ⟨a0,aH,av⟩ := Kd.at_int aI.out (ad) am an
             cases aH
             replace am := eq_true am
             replace an := eq_true an
             go_wp2
             go_ret3
             exact ⟨by first|rfl|(simp;done)|(rw [Int.tdiv_eq_ediv_of_nonneg (by assumption)];done)|(rw [Int.tmod_eq_emod_of_nonneg (by assumption)];done)|(simp only [← ak] <;> (first|rfl|simp))|(simp [*];done),by repeat (first|exact Drawn0.refl _|apply Drawn0.step)⟩
            ·rw [if_neg aG] at H
             have aY := beq_eq_false_iff_ne.mpr aG
             have aZ := bne_iff_ne.mpr aG
             simp only [Option.some.injEq,Prod.mk.injEq] at H
             obtain ⟨rfl,rfl,rfl⟩ := H
             have am : 0 ≤ ((ad) : Int) := dA
             have an : (ad) < (l0.length : Int) := dA
             obtain ⟨a0,aH,av⟩ := Kd.at_int aI.out (ad) am an
             cases aH
             replace am := eq_true am
             replace an := eq_true an
             go_wp2
             go_ret3
             exact ⟨by first|rfl|(simp;done)|(rw [Int.tdiv_eq_ediv_of_nonneg (by assumption)];done)|(rw [Int.tmod_eq_emod_of_nonneg (by assumption)];done)|(simp only [← ak] <;> (first|rfl|simp))|(simp [*];done),by repeat (first|exact Drawn0.refl _|apply Drawn0.step)⟩
           ·rw [if_neg aM] at H
            have aX := decide_eq_false aM
            clear aM
            simp only [Option.some.injEq,Prod.mk.injEq] at H
            obtain ⟨rfl,rfl,rfl⟩ := H
            go_wp2
            go_ret3
            exact ⟨by first|rfl|(simp;done)|(simp [*];done),by repeat (first|exact Drawn0.refl _|apply Drawn0.step)⟩
    ·rw [if_neg c6] at H
     exact absurd H (by simp)
end Go.Proofs.Ytihfpmociffpeaa.O
