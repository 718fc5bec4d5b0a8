import Derived.Test.YtgadbpljlpclnaaGreatDoorHx0
namespace Go.Proofs.YtgadbpljlpclnaaGreatDoor.H
open Go.RowKit Go.Proofs.YtgadbpljlpclnaaGreatDoorW.PrintWords Go.Proofs.YtgadbpljlpclnaaGreatDoorW.PrintLast Go.Proofs.YtgadbpljlpclnaaGreatDoorW.PrintMore
set_option maxHeartbeats 4000000
set_option maxRecDepth 100000
attribute [local go_sem] max2_int min2_int max_two min_two max_three min_three max_four min_four
set_option linter.unusedVariables false
set_option linter.unusedSimpArgs false

/-! ### history_one: function 36 (by hand) -/
open Go.Maps Go.Proofs.YtgadbpljlpclnaaGreatDoor.Q
def iget : List (Int × Int) → Int → Option Int
  | [], _ => none
  | p :: m, x => if p.1 = x then some p.2 else iget m x
def tv (es : List (Int × Int)) : MV := es.map fun e => (e.1, .int .i64 e.2)
theorem vget_tv (es : List (Int × Int)) (x : Int) : vget (tv es) x = (iget es x).map (Value.int .i64) := by
  induction es with
  | nil => rfl
  | cons p m ih =>
    show (if p.1 = x then some (Value.int .i64 p.2) else vget (tv m) x) = _
    rw [iget, ih]
    by_cases h : p.1 = x
    · rw [if_pos h, if_pos h]; rfl
    · rw [if_neg h, if_neg h]
/-- Is one of these later than t? -/
def lateG (t : Int) (es : List (Int × Int)) : List Int → Bool
  | [] => false
  | p :: ps => (match iget es p with | some u => decide (t < u) | none => false) || lateG t es ps
def goneG (es : List (Int × Int)) : List Int → Bool
  | [] => false
  | p :: ps => (iget es p).isNone || goneG es ps
def twiceG : List Int → Bool
  | [x, y] => decide (x = y)
  | _ => false
def numsG (c : S28) (last : Int) : Bool := decide (c.f0 ≤ last) || decide (9999 < c.f0) || decide (c.f3 < 0) || decide (1000000 < c.f3) || decide (c.f4 < 0) || decide (9999 < c.f4)
def oneG (c : S28) (last : Int) (es : List (Int × Int)) : Int :=
  if numsG c last = true then 2 else if lateG c.f3 es c.f1 = true then 2 else if 2 < c.f1.length then 4 else if 16 < c.f2.length then 4 else if goneG es c.f1 = true then 8 else if twiceG c.f1 = true then 7 else 0
theorem w_incW_ (i : Nat) (h : i < 9223372036854775807) : wrap64 ((i : Int) + 1) = ((i + 1 : Nat) : Int) := by unfold wrap64; omega
theorem twiceG_two : ∀ (l : List Int) (h : l.length = 2), twiceG l = decide (l[0] = l[1])
  | [x, y], _ => rfl
theorem twiceG_ne : ∀ (l : List Int), l.length ≠ 2 → twiceG l = false
  | [], _ => rfl
  | [x], _ => rfl
  | [x, y], h => absurd rfl h
  | x :: y :: z :: l, _ => rfl
theorem int_cell_ {w : World} {A : Option Addr} {l : List Int} (h : (Kd.int .i64).C w A l.length l) (i : Nat) (hi : i < l.length) : ∃ ad, A = some ad ∧ w.cell? (ad.add i) = some (.int .i64 l[i]) := by
  obtain ⟨ad, he, hc⟩ := Kd.at_int h (i : Int) (by omega) (by omega)
  rw [Int.toNat_natCast] at hc
  refine ⟨ad, he, ?_⟩
  rw [hc]
  simp [Go.Proofs.YtgadbpljlpclnaaGreatDoorW.PrintWords.rd, List.getD_eq_getElem?_getD, List.getElem?_eq_getElem hi]
theorem one_calls {w : World} {c : S28} {last : Int} {A1 A2 : Option Addr} {c1_ c2_ bt n : Nat} {es : List (Int × Int)} (hp : (Kd.int .i64).C w A1 c.f1.length c.f1) (hS : VM Tryz.prog 3 (.int .i64 0) w bt n (tv es)) (hok : c.f1.all okV = true) :
    Calls Tryz.prog 36 #[.agg #[.int .i64 c.f0, .slice A1 c.f1.length c1_, .slice A2 c.f2.length c2_, .int .i64 c.f3, .int .i64 c.f4], .int .i64 last, .map (some bt)] w fun e w' => e = .returned (.int .i64 (oneG c last es)) ∧ Below w.heap.size w w' := by
  generalize hW : w.alloc (Obj.cells #[Value.int .i64 c.f0, .slice A1 c.f1.length c1_, .slice A2 c.f2.length c2_, .int .i64 c.f3, .int .i64 c.f4] 28) = W
  have hB : Below w.heap.size w W := by rw [← hW]; exact below_alloc (Below.refl _ _) _
  have hx0 : W.cell? ⟨w.heap.size, 0, none⟩ = some (.int .i64 c.f0) := by rw [← hW]; simp
  have hx1 : W.cell? ⟨w.heap.size, 1, none⟩ = some (.slice A1 c.f1.length c1_) := by rw [← hW]; simp
  have hx2 : W.cell? ⟨w.heap.size, 2, none⟩ = some (.slice A2 c.f2.length c2_) := by rw [← hW]; simp
  have hx3 : W.cell? ⟨w.heap.size, 3, none⟩ = some (.int .i64 c.f3) := by rw [← hW]; simp
  have hx4 : W.cell? ⟨w.heap.size, 4, none⟩ = some (.int .i64 c.f4) := by rw [← hW]; simp
  have HB := aK hB
  have HP := aK (Kd.C_below hp hB)
  have HS := aK (hS.below hB)
  have HK := aK (fun (i : Nat) (hi : i < c.f1.length) => keyI_ok (List.all_eq_true.1 hok c.f1[i] (List.getElem_mem hi)))
  have HM := aK (show c.f1.length ≤ 9223372036854775807 from Kd.C_max hp)
  clear hB hp hS hok
  cases hn : numsG c last with
  | true =>
    have e : oneG c last es = 2 := by rw [oneG, if_pos hn]
    rw [e]
    clear e
    unfold numsG at hn
    by_cases d0 : c.f0 ≤ last
    · have d0 := decide_eq_true d0
      go_enter Tryz.func36, Tryz.ntmps36
      go_wp2
      go_ret
      exact ⟨rfl, HB.out⟩
    have d0 := decide_eq_false d0
    by_cases d1 : 9999 < c.f0
    · have d1 := decide_eq_true d1
      go_enter Tryz.func36, Tryz.ntmps36
      go_wp2
      go_ret
      exact ⟨rfl, HB.out⟩
    have d1 := decide_eq_false d1
    by_cases d2 : c.f3 < 0
    · have d2 := decide_eq_true d2
      go_enter Tryz.func36, Tryz.ntmps36
      go_wp2
      go_ret
      exact ⟨rfl, HB.out⟩
    have d2 := decide_eq_false d2
    by_cases d3 : 1000000 < c.f3
    · have d3 := decide_eq_true d3
      go_enter Tryz.func36, Tryz.ntmps36
      go_wp2
      go_ret
      exact ⟨rfl, HB.out⟩
    have d3 := decide_eq_false d3
    by_cases d4 : c.f4 < 0
    · have d4 := decide_eq_true d4
      go_enter Tryz.func36, Tryz.ntmps36
      go_wp2
      go_ret
      exact ⟨rfl, HB.out⟩
    have d4 := decide_eq_false d4
    rw [d0, d1, d2, d3, d4] at hn
    have d5 : decide (9999 < c.f4) = true := by simpa using hn
    clear hn
    go_enter Tryz.func36, Tryz.ntmps36
    go_wp2
    go_ret
    exact ⟨rfl, HB.out⟩
  | false =>
    have HR := aK (show oneG c last es = if lateG c.f3 es c.f1 = true then 2 else if 2 < c.f1.length then 4 else if 16 < c.f2.length then 4 else if goneG es c.f1 = true then 8 else if twiceG c.f1 = true then 7 else 0 by rw [oneG, if_neg (by rw [hn]; decide)])
    generalize oneG c last es = r at HR ⊢
    unfold numsG at hn
    simp only [Bool.or_eq_false_iff] at hn
    obtain ⟨⟨⟨⟨⟨d0, d1⟩, d2⟩, d3⟩, d4⟩, d5⟩ := hn
    go_enter Tryz.func36, Tryz.ntmps36
    go_wp2
    clear d0 d1 d2 d3 d4 d5
    go_loopg [46] c.f1.length (fun kq v46 w' => ∃ (i : Nat), v46 = .int .i64 (i : Int) ∧ Aside0 (i ≤ c.f1.length ∧ c.f1.length - i ≤ kq) ∧ Aside0 (lateG c.f3 es c.f1 = lateG c.f3 es (c.f1.drop i)) ∧ w' = W)
    case atStart => exact ⟨0, rfl, ⟨Nat.zero_le _, by omega⟩, ⟨by rw [List.drop_zero]⟩, by first | rfl | assumption⟩
    case round =>
      obtain ⟨i, rfl, HI, HL, rfl⟩ := hrel
      by_cases hlt : i < c.f1.length
      · cases gk with
        | zero => exfalso; have := HI.out; omega
        | succ k1 =>
          have c1 : decide ((i : Int) < (c.f1.length : Int)) = true := decide_eq_true (by omega)
          obtain ⟨ad, e, hx⟩ := int_cell_ HP.out i hlt
          subst e
          have p : (0 ≤ (i : Int)) = True := eq_true (by omega)
          have q : ((i : Int) < (c.f1.length : Int)) = True := eq_true (by omega)
          have HKi := aK (HK.out i hlt)
          have hL := HL.out
          rw [List.drop_eq_getElem_cons hlt, lateG] at hL
          generalize c.f1[i] = x at hx HKi hL
          have hvx := vget_tv es x
          cases hg : iget es x with
          | none =>
            rw [hg] at hvx hL
            have HLi := aK (hL.trans (Bool.false_or _))
            clear hL hg
            replace hvx : vget (tv es) x = none := hvx
            go_wp2_with (first
              | ((with_reducible refine gate_dst (N := 53) rfl ?_); refine wpList_lookup_ok_V _ rfl _ _ 57 rfl 3 3 lawI Tryz.underlying57 (Tryz.zeroValue3 _) bt n (tv es) rfl HS.out x rfl HKi.out ?_; rw [hvx]; simp only [Option.getD_none, Option.isSome_none]))
            go_roundg k1
            case measure => omega
            case rel => exact ⟨i + 1, by rw [w_incW_ i (by have := HM.out; omega)], ⟨by omega, by have := HI.out; omega⟩, HLi, rfl⟩
          | some u =>
            rw [hg] at hvx hL
            replace hvx : vget (tv es) x = some (.int .i64 u) := hvx
            by_cases hu : c.f3 < u
            · have hu := decide_eq_true hu
              simp only [hu, Bool.true_or] at hL
              have hR := HR.out
              rw [if_pos hL] at hR
              subst hR
              clear hL hg HR
              go_wp2_with (first
                | ((with_reducible refine gate_dst (N := 53) rfl ?_); refine wpList_lookup_ok_V _ rfl _ _ 57 rfl 3 3 lawI Tryz.underlying57 (Tryz.zeroValue3 _) bt n (tv es) rfl HS.out x rfl HKi.out ?_; rw [hvx]; simp only [Option.getD_some, Option.isSome_some]))
              go_ret
              exact ⟨rfl, HB.out⟩
            · have hu := decide_eq_false hu
              simp only [hu, Bool.false_or] at hL
              have HLi := aK hL
              clear hL hg
              go_wp2_with (first
                | ((with_reducible refine gate_dst (N := 53) rfl ?_); refine wpList_lookup_ok_V _ rfl _ _ 57 rfl 3 3 lawI Tryz.underlying57 (Tryz.zeroValue3 _) bt n (tv es) rfl HS.out x rfl HKi.out ?_; rw [hvx]; simp only [Option.getD_some, Option.isSome_some]))
              go_roundg k1
              case measure => omega
              case rel => exact ⟨i + 1, by rw [w_incW_ i (by have := HM.out; omega)], ⟨by omega, by have := HI.out; omega⟩, HLi, rfl⟩
      · have c1 : decide ((i : Int) < (c.f1.length : Int)) = false := decide_eq_false (by omega)
        have hL := HL.out
        rw [List.drop_of_length_le (by omega), lateG] at hL
        have hR := HR.out
        rw [hL, if_neg (by decide)] at hR
        clear hL HL HI HR
        by_cases e2 : 2 < c.f1.length
        · rw [if_pos e2] at hR
          subst hR
          have d2 : decide ((2 : Int) < (c.f1.length : Int)) = true := decide_eq_true (by omega)
          go_wp2
          go_ret
          exact ⟨rfl, HB.out⟩
        rw [if_neg e2] at hR
        have d2 : decide ((2 : Int) < (c.f1.length : Int)) = false := decide_eq_false (by omega)
        by_cases e3 : 16 < c.f2.length
        · rw [if_pos e3] at hR
          subst hR
          have d3 : decide ((16 : Int) < (c.f2.length : Int)) = true := decide_eq_true (by omega)
          go_wp2
          go_ret
          exact ⟨rfl, HB.out⟩
        rw [if_neg e3] at hR
        have d3 : decide ((16 : Int) < (c.f2.length : Int)) = false := decide_eq_false (by omega)
        have HR := aK hR
        have HE2 := aK e2
        clear hR e2 e3
        go_wp2
        clear c1 d2 d3
        go_loopg [77] c.f1.length (fun kq v77 w' => ∃ (i : Nat), v77 = .int .i64 (i : Int) ∧ Aside0 (i ≤ c.f1.length ∧ c.f1.length - i ≤ kq) ∧ Aside0 (goneG es c.f1 = goneG es (c.f1.drop i)) ∧ w' = wr)
        case atStart => exact ⟨0, rfl, ⟨Nat.zero_le _, by omega⟩, ⟨by rw [List.drop_zero]⟩, by first | rfl | assumption⟩
        case round =>
          obtain ⟨i, rfl, HI, HL, rfl⟩ := hrel
          by_cases hlt : i < c.f1.length
          · cases gk with
            | zero => exfalso; have := HI.out; omega
            | succ k1 =>
              have c1 : decide ((i : Int) < (c.f1.length : Int)) = true := decide_eq_true (by omega)
              obtain ⟨ad, e, hx⟩ := int_cell_ HP.out i hlt
              subst e
              have p : (0 ≤ (i : Int)) = True := eq_true (by omega)
              have q : ((i : Int) < (c.f1.length : Int)) = True := eq_true (by omega)
              have HKi := aK (HK.out i hlt)
              have hL := HL.out
              rw [List.drop_eq_getElem_cons hlt, goneG] at hL
              generalize c.f1[i] = x at hx HKi hL
              have hvx := vget_tv es x
              cases hg : iget es x with
              | none =>
                rw [hg] at hvx hL
                replace hvx : vget (tv es) x = none := hvx
                simp only [Option.isNone_none, Bool.true_or] at hL
                have hR := HR.out
                rw [if_pos hL] at hR
                subst hR
                clear hL hg HR
                go_wp2_with (first
                  | ((with_reducible refine gate_dst (N := 87) rfl ?_); refine wpList_lookup_ok_V _ rfl _ _ 57 rfl 3 3 lawI Tryz.underlying57 (Tryz.zeroValue3 _) bt n (tv es) rfl HS.out x rfl HKi.out ?_; rw [hvx]; simp only [Option.getD_none, Option.isSome_none]))
                go_ret
                exact ⟨rfl, HB.out⟩
              | some u =>
                rw [hg] at hvx hL
                replace hvx : vget (tv es) x = some (.int .i64 u) := hvx
                simp only [Option.isNone_some, Bool.false_or] at hL
                have HLi := aK hL
                clear hL hg
                go_wp2_with (first
                  | ((with_reducible refine gate_dst (N := 87) rfl ?_); refine wpList_lookup_ok_V _ rfl _ _ 57 rfl 3 3 lawI Tryz.underlying57 (Tryz.zeroValue3 _) bt n (tv es) rfl HS.out x rfl HKi.out ?_; rw [hvx]; simp only [Option.getD_some, Option.isSome_some]))
                go_roundg k1
                case measure => omega
                case rel => exact ⟨i + 1, by rw [w_incW_ i (by have := HM.out; omega)], ⟨by omega, by have := HI.out; omega⟩, HLi, rfl⟩
          · have c1 : decide ((i : Int) < (c.f1.length : Int)) = false := decide_eq_false (by omega)
            have hL := HL.out
            rw [List.drop_of_length_le (by omega), goneG] at hL
            have hR := HR.out
            rw [hL, if_neg (by decide)] at hR
            clear hL HL HI HR
            by_cases e2 : c.f1.length = 2
            · obtain ⟨ad, e, hy0⟩ := int_cell_ HP.out 0 (by omega)
              obtain ⟨ad', e', hy1⟩ := int_cell_ HP.out 1 (by omega)
              subst e
              obtain rfl := Option.some.inj e'
              have ht := twiceG_two c.f1 e2
              rw [ht] at hR
              clear ht e'
              generalize c.f1[0] = x at hy0 hR
              generalize c.f1[1] = y at hy1 hR
              have hy2 : wr.cell? ad = some (.int .i64 x) := by rw [← hy0, show ad.add 0 = ad by simp [Addr.add]]
              have hy3 : wr.cell? ⟨ad.block, ad.off + 1, none⟩ = some (.int .i64 y) := by rw [← hy1]; simp [Addr.add]
              have d5 : ((c.f1.length : Int) == 2) = true := by simpa using (show (c.f1.length : Int) = 2 by omega)
              have p0 : ((0 : Int) < (c.f1.length : Int)) = True := eq_true (by omega)
              have p1 : ((1 : Int) < (c.f1.length : Int)) = True := eq_true (by omega)
              by_cases hxy : x = y
              · have d4 : (x == y) = true := by simpa using hxy
                rw [decide_eq_true hxy, if_pos rfl] at hR
                subst hR
                clear hxy
                go_wp2
                repeat (go_quiet (fail); try go_wp2)
                go_ret
                exact ⟨rfl, pw_below_drewN HB.out _⟩
              · have d4 : (x == y) = false := by simpa using hxy
                rw [decide_eq_false hxy, if_neg (by decide)] at hR
                subst hR
                clear hxy
                go_wp2
                repeat (go_quiet (fail); try go_wp2)
                go_ret
                exact ⟨rfl, pw_below_drewN HB.out _⟩
            · have d4 : ((c.f1.length : Int) == 2) = false := by simpa using (show ¬ (c.f1.length : Int) = 2 by omega)
              have ht := twiceG_ne c.f1 e2
              rw [ht, if_neg (by decide)] at hR
              subst hR
              clear ht
              go_wp2
              repeat (go_quiet (fail); try go_wp2)
              go_ret
              exact ⟨rfl, pw_below_drewN HB.out _⟩

/-! ### strings_explode: function 110 (by hand) -/
/-- Not reached: what is split is not split at nothing. -/
def strings_explode.f (aa : ByteArray) (ab : Int) : Option (List ByteArray) := none
theorem strings_explode.calls (a0 : ByteArray) (a1 : Int) (r : List ByteArray) (w : World) (h : strings_explode.f a0 a1 = some r) :
    Calls Tryz.prog 110 #[.string a0, .int .i64 a1] w fun e w' => ∃ aa : Value, e = .returned (aa) ∧ Kd.R Kd.string 9 w' w.heap.size (fun _ => True) aa r ∧ Below w.heap.size w w' := by
  cases h

/-! ### strings_Index: function 112 (by hand) -/
def strings_Index.f (a0 a1 : ByteArray) : Option Int := if a1.size = 1 then some (Lib.indexByte a0.data.toList (a1.data.toList.headD 0)) else none
theorem strings_Index.calls (a0 : ByteArray) (a1 : ByteArray) (r : Int) (w : World) (h : strings_Index.f a0 a1 = some r) :
    Calls Tryz.prog 112 #[.string a0, .string a1] w fun e w' => e = .returned (.int .i64 r) ∧ Drawn0 w w' := by
  unfold strings_Index.f at h
  split at h
  case isFalse => cases h
  rename_i h1
  obtain rfl := Option.some.inj h
  have e := one_byte_ a1 h1
  have hc := Tryz.strings_Index_one a0 (a1.data.toList.headD 0) w
  rw [← e] at hc
  refine hc.mono ?_
  rintro e w' ⟨rfl, rfl⟩
  exact ⟨rfl, Drawn0.refl _⟩

/-! ### strings_Count: function 111 (by hand) -/
def strings_Count.f (a0 a1 : ByteArray) : Option Int := if a1.size = 1 then some (Lib.countByte a0.data.toList (a1.data.toList.headD 0)) else none
theorem strings_Count.calls (a0 : ByteArray) (a1 : ByteArray) (r : Int) (w : World) (h : strings_Count.f a0 a1 = some r) :
    Calls Tryz.prog 111 #[.string a0, .string a1] w fun e w' => e = .returned (.int .i64 r) ∧ Drawn0 w w' := by
  unfold strings_Count.f at h
  split at h
  case isFalse => cases h
  rename_i h1
  obtain rfl := Option.some.inj h
  have e := one_byte_ a1 h1
  have hc := Tryz.strings_Count_one a0 (a1.data.toList.headD 0) w
  rw [← e] at hc
  refine hc.mono ?_
  rintro e w' ⟨rfl, rfl⟩
  exact ⟨rfl, Drawn0.refl _⟩

/-! ### strings_genSplit: function 105 -/
mutual
def strings_genSplit.j0 : Nat → ByteArray → ByteArray → Int → Int → Option (List ByteArray)
|0,_,_,_,_ => none
|k + 1,x0,x1,x2,x3 => if 0 ≤ (mn x3 (wrap64 ((x0.size : Int) + 1))) then (if (mn x3 (wrap64 ((x0.size : Int) + 1)) : Int).toNat ≤ 17592186044416 then (strings_genSplit.l0 k x0 x1 x2 (wrap64 ((mn x3 (wrap64 ((x0.size : Int) + 1))) - 1)) (List.replicate (mn x3 (wrap64 ((x0.size : Int) + 1)) : Int).toNat (⟨#[]⟩ : ByteArray)) 0) else (none)) else (none)
def strings_genSplit.l0 : Nat → ByteArray → ByteArray → Int → Int → List ByteArray → Int → Option (List ByteArray)
|0,_,_,_,_,_,_ => none
|k + 1,x0,x1,x2,x3,x9,aa => if aa < x3 then ((strings_Index.f x0 x1).bind fun ab => (if ab < 0 then (if 0 ≤ aa then (if aa < (x9.length : Int) then (if 0 ≤ (wrap64 (aa + 1)) then (if (wrap64 (aa + 1)) ≤ (x9.length : Int) then (some ((x9.set (aa : Int).toNat x0).take ((wrap64 (aa + 1)) : Int).toNat)) else (none)) else (none)) else (none)) else (none)) else (if 0 ≤ (wrap64 (ab + x2)) then (if (wrap64 (ab + x2)) ≤ (x0.size : Int) then (if 0 ≤ aa then (if aa < (x9.length : Int) then (if 0 ≤ (wrap64 (ab + (x1.size : Int))) then (if (wrap64 (ab + (x1.size : Int))) ≤ (x0.size : Int) then (strings_genSplit.l0 k (x0.extract ((wrap64 (ab + (x1.size : Int))) : Int).toNat x0.size) x1 x2 x3 (x9.set (aa : Int).toNat (x0.extract 0 ((wrap64 (ab + x2)) : Int).toNat)) (wrap64 (aa + 1))) else (none)) else (none)) else (none)) else (none)) else (none)) else (none)))) else (if 0 ≤ aa then (if aa < (x9.length : Int) then (if 0 ≤ (wrap64 (aa + 1)) then (if (wrap64 (aa + 1)) ≤ (x9.length : Int) then (some ((x9.set (aa : Int).toNat x0).take ((wrap64 (aa + 1)) : Int).toNat)) else (none)) else (none)) else (none)) else (none))
end
def strings_genSplit.f (k : Nat) (a0 : ByteArray) (a1 : ByteArray) (a2 : Int) (a3 : Int) : Option (List ByteArray) := if a3 = 0 then (some ([] : List ByteArray)) else (if a1.toList = ([] : List UInt8) then ((strings_explode.f a0 a3).bind fun aa => (some aa)) else (if a3 < 0 then ((strings_Count.f a0 a1).bind fun ab => (strings_genSplit.j0 k a0 a1 a2 (wrap64 (ab + 1)))) else (strings_genSplit.j0 k a0 a1 a2 a3)))
theorem strings_genSplit.mono_l : ∀ k, (∀ y0 y1 y2 y3, LeO (strings_genSplit.j0 k y0 y1 y2 y3) (strings_genSplit.j0 (k + 1) y0 y1 y2 y3)) ∧ (∀ y0 y1 y2 y3 y4 y5, LeO (strings_genSplit.l0 k y0 y1 y2 y3 y4 y5) (strings_genSplit.l0 (k + 1) y0 y1 y2 y3 y4 y5))
|0 => ⟨fun _ _ _ _ r h => by simp [strings_genSplit.j0] at h,fun _ _ _ _ _ _ r h => by simp [strings_genSplit.l0] at h⟩
|k + 1 => by
  obtain ⟨ih0,ih1⟩ := strings_genSplit.mono_l k
  refine ⟨?_,?_⟩
  ·intro y0 y1 y2 y3
   unfold strings_genSplit.j0
   repeat' (with_reducible first|exact ih1 _ _ _ _ _ _|exact LeO.refl _|exact LeO.none _|refine LeO.ite ?_ ?_|refine LeO.bind ?_ (fun _ => ?_))
  ·intro y0 y1 y2 y3 y4 y5
   unfold strings_genSplit.l0
   repeat' (with_reducible first|exact ih1 _ _ _ _ _ _|exact LeO.refl _|exact LeO.none _|refine LeO.ite ?_ ?_|refine LeO.bind ?_ (fun _ => ?_))
theorem strings_genSplit.mono : ∀ a0 a1 a2 a3 k, LeO (strings_genSplit.f k a0 a1 a2 a3) (strings_genSplit.f (k + 1) a0 a1 a2 a3) := by
 intro a0 a1 a2 a3 k
 obtain ⟨ih0,ih1⟩ := strings_genSplit.mono_l k
 unfold strings_genSplit.f
 repeat' (with_reducible first|exact ih0 _ _ _ _|exact ih1 _ _ _ _ _ _|exact LeO.refl _|exact LeO.none _|refine LeO.ite ?_ ?_|refine LeO.bind ?_ (fun _ => ?_))
theorem strings_genSplit.calls (k : Nat) (a0 : ByteArray) (a1 : ByteArray) (a2 : Int) (a3 : Int) (r : List ByteArray) (w : World) (h : strings_genSplit.f k a0 a1 a2 a3 = some r) :
  Calls Tryz.prog 105 #[.string a0,.string a1,.int .i64 a2,.int .i64 a3] w fun e w' => ∃ cw : Value,e = .returned (cw) ∧ Kd.R Kd.string 9 w' w.heap.size (fun _ => True) cw r ∧ Below w.heap.size w w' := by
 have HB := aK (Below.refl w.heap.size w)
 unfold strings_genSplit.f at h
 have H := h
 clear h
 by_cases c5 : a3 = 0
 ·rw [if_pos c5] at H
  have a4 := beq_iff_eq.mpr c5
  have a5 := bne_eq_false_iff_eq.mpr c5
  clear c5
  obtain rfl := Option.some.inj H
  go_enter Tryz.func105,Tryz.ntmps105
  go_wp2
  go_ret
  exact ⟨_,by first|rfl|(simp [errW_none,errW_some] <;> rfl)|(simp [*,errW_none,errW_some] <;> rfl),by first|exact Kd.R_nil _ _ _ _ _|exact Kd.N_nil _ _ _ _ _|exact Kd.V_nil _ _ _ _ _|exact Kd.Q_nil _ _ _ _ _|exact Kd.S_nil _ _ _ _ _,bM HB.out⟩
 ·rw [if_neg c5] at H
  have a4 := beq_eq_false_iff_ne.mpr c5
  have a5 := bne_iff_ne.mpr c5
  by_cases c6 : a1.toList = ([] : List UInt8)
  ·rw [if_pos c6] at H
   have a6 := beq_iff_eq.mpr c6
   have a7 := bne_eq_false_iff_eq.mpr c6
   clear c6
   replace H := Option.bind_eq_some_iff.mp H
   obtain ⟨bP,cx,H⟩ := H
   have A7 := aK cx
   clear cx
   obtain rfl := Option.some.inj H
   go_enter Tryz.func105,Tryz.ntmps105
   go_wp2_with (first|((with_reducible refine gate_callee (f := 110) rfl ?_);refine gL 18 Tryz.func110 #[.string a0,.int .i64 a3] ?_;(with_reducible refine (strings_explode.calls a0 a3 bP _ A7.out).mono ?_);rintro e w8 ⟨dg,rfl,cy,hb⟩;refine ⟨_,rfl,?_⟩;have a8 := aK (Kd.R_lower cy (below_size (bM HB.out)));replace HB := aK (below_step (bM HB.out) hb);(try clear hb);(try clear hk);(try clear cy)))
   go_ret
   exact ⟨_,by first|rfl|(simp [errW_none,errW_some] <;> rfl)|(simp [*,errW_none,errW_some] <;> rfl),rM a8.out,bM HB.out⟩
  ·rw [if_neg c6] at H
   have a6 := beq_eq_false_iff_ne.mpr c6
   have a7 := bne_iff_ne.mpr c6
   have bQ := aK H
   clear H
   go_enter Tryz.func105,Tryz.ntmps105
   go_upto_if 20 with (fail)
   go_cut [3] (fun v3 wc => ∃ (kq : Nat) (ay : Int),v3 = .int .i64 ay ∧ Aside0 (strings_genSplit.j0 kq a0 a1 a2 ay = some r) ∧ Aside0 (kq ≤ k) ∧ Aside0 (Below w.heap.size w wc))
   case first =>
    have H := bQ.out
    clear bQ
    by_cases c10 : a3 < 0
    ·rw [if_pos c10] at H
     have aj := decide_eq_true c10
     clear c10
     (first|rw [aj]|(simp only [i64_w,i32_w];rw [aj])|rw [c10b1]|skip)
     replace H := Option.bind_eq_some_iff.mp H
     obtain ⟨a9,ba,H⟩ := H
     have dh := aK ba
     clear ba
     have H' := aK H
     clear H
     go_wp2_with (first|((with_reducible refine gate_callee (f := 111) rfl ?_);refine gL 23 Tryz.func111 #[.string a0,.string a1] ?_;(with_reducible refine (strings_Count.calls a0 a1 a9 _ dh.out).mono ?_);rintro e w' ⟨rfl,⟨nd,rfl⟩⟩;refine ⟨_,rfl,?_⟩))
     go_meet
     case rel => exact ⟨_,(wrap64 (a9 + 1)),(by first|rfl|(simp;done)|(simp [*];done)),H',⟨by first|omega|exact Nat.le_refl _⟩,⟨bM HB.out⟩⟩
    ·rw [if_neg c10] at H
     have aj := decide_eq_false c10
     clear c10
     (first|rw [aj]|(simp only [i64_w,i32_w];rw [aj])|rw [c10b1]|skip)
     have H' := aK H
     clear H
     go_wp2
     go_meet
     case rel => exact ⟨_,(a3),(by first|rfl|(simp;done)|(simp [*];done)),H',⟨by first|omega|exact Nat.le_refl _⟩,⟨bM HB.out⟩⟩
   case rest =>
    clear bQ
    try clear p2
    try clear c5
    try clear a4
    try clear a5
    try clear c6
    try clear a6
    try clear a7
    try clear p6
    obtain ⟨kq,ay,rfl,HA,cz,HB⟩ := hcut
    cases kq with
   |zero => exact absurd HA.out (by simp [strings_genSplit.j0])
   |succ kj8 =>
     have H := HA.out
     clear HA
     simp only [strings_genSplit.j0] at H
     obtain ⟨ae,ak⟩ : ∃ j_ : Int,(mn ay (wrap64 ((a0.size : Int) + 1))) = j_ := ⟨_,rfl⟩
     replace H : (if 0 ≤ (ae) then (if (ae : Int).toNat ≤ 17592186044416 then (strings_genSplit.l0 kj8 a0 a1 a2 (wrap64 ((ae) - 1)) (List.replicate (ae : Int).toNat (⟨#[]⟩ : ByteArray)) 0) else (none)) else (none)) = some r := by first|(rw [ak] at H;exact H)|(simp only [ak] at H ⊢;exact H)
     have bR : (if (wrap64 ((a0.size : Int) + 1)) < ay then (wrap64 ((a0.size : Int) + 1)) else ay) = ae := ak
     by_cases aX : 0 ≤ (ae)
     ·rw [if_pos aX] at H
      have bb := eq_true aX
      have bc := decide_eq_true aX
      clear aX
      obtain ⟨bO,H⟩ := iS H
      have bd := eq_true bO
      have be := decide_eq_true bO
      clear bO
      obtain ⟨bf,al⟩ : ∃ y_ : List ByteArray,y_ = (List.replicate (ae : Int).toNat (⟨#[]⟩ : ByteArray)) := ⟨_,rfl⟩
      replace H : (strings_genSplit.l0 kj8 a0 a1 a2 (wrap64 ((ae) - 1)) bf 0) = some r := by first|(rw [al];with_reducible exact H)|(have ag := (Option.bind_some _ _).symm.trans H;rw [al];with_reducible exact ag)|(have ag := (Option.bind_some _ _).symm.trans H;with_reducible exact ag)|with_reducible exact H|(rw [al];exact H)|exact H
      have aI := aK al
      clear al
      have H' := aK H
      clear H
      go_wp2_with (first|((with_reducible refine gate_dst (N := 31) rfl ?_);refine Kd.R_make Kd.string _ 9 rfl (N := 31) rfl 44 _ _ rfl ae rfl rfl Tryz.underlying44 (.string ⟨#[]⟩) 16 info9 rfl (by decide) (by omega) (⟨#[]⟩ : ByteArray) (ok := fun _ => True) (okp := fun _ => True) rfl (fun _ hk => hk) trivial (dA) (Nat.le_trans (Nat.mul_le_mul_right _ (dA : ae.toNat ≤ 17592186044416)) (by omega)) (Below.refl _ _) (Nat.le_refl _) ?_;intro aQ ds az hb hg_ hnew_;clear hg_ hnew_;(first|rw [← aI.out] at az|(simp only [Int.reduceToNat] at az;rw [← aI.out] at az));have bg := aK (Kd.R_lower az (below_size (bM HB.out)));replace HB := aK (below_step (bM HB.out) hb);clear hb az))
      go_loopg [0,10] kj8 (fun kq v0 di w' => ∃ (ab : ByteArray) (ad : List ByteArray) (aa : Int),v0 = .string ab ∧ di = .int .i64 aa ∧ Aside0 (strings_genSplit.l0 kq ab a1 a2 (wrap64 ((ae) - 1)) ad aa = some r) ∧ Aside0 (kq ≤ kj8) ∧ Aside0 (Kd.R Kd.string 9 w' w.heap.size (fun _ => True) aQ ad) ∧ Aside0 (Below w.heap.size w w'))
      case atStart => exact ⟨(a0),(bf),(0),(by first|rfl|(simp;done)|(simp [*];done)),(by first|rfl|(simp;done)|(simp [*];done)),H',⟨Nat.le_refl _⟩,⟨rM bg.out⟩,⟨bM HB.out⟩⟩
      case round =>
       clear H'
       try clear p2
       try clear p6
       try clear aX
       try clear bb
       try clear bc
       try clear bO
       try clear bd
       try clear be
       try clear p2
       try clear p6
       obtain ⟨ab,ad,aa,rfl,rfl,HA,cA,ac,HB⟩ := hrel
       cases gk with
      |zero => exact absurd HA.out (by simp [strings_genSplit.l0])
      |succ k2 =>
        have H := HA.out
        clear HA
        simp only [strings_genSplit.l0] at H
        by_cases aY : aa < (wrap64 ((ae) - 1))
        ·rw [if_pos aY] at H
         have bh := decide_eq_true aY
         clear aY
         replace H := Option.bind_eq_some_iff.mp H
         obtain ⟨af,bi,H⟩ := H
         have bj := aK bi
         clear bi
         by_cases aZ : af < 0
         ·rw [if_pos aZ] at H
          have bk := decide_eq_true aZ
          clear aZ
          obtain ⟨cB,H⟩ := iS H
          have cC := decide_eq_true cB
          clear cB
          obtain ⟨cD,H⟩ := iS H
          have cE := decide_eq_true cD
          clear cD
          obtain ⟨aB,am⟩ : ∃ y_ : List ByteArray,y_ = (ad.set (aa : Int).toNat ab) := ⟨_,rfl⟩
          replace H : (if 0 ≤ (wrap64 (aa + 1)) then (if (wrap64 (aa + 1)) ≤ (ad.length : Int) then (some (aB.take ((wrap64 (aa + 1)) : Int).toNat)) else (none)) else (none)) = some r := by first|(rw [am];with_reducible exact H)|(have ag := (Option.bind_some _ _).symm.trans H;rw [am];with_reducible exact ag)|(have ag := (Option.bind_some _ _).symm.trans H;with_reducible exact ag)|with_reducible exact H|(rw [am];exact H)|exact H
          have aJ := aK am
          clear am
          obtain ⟨ah,an⟩ : ∃ j_ : Int,(wrap64 (aa + 1)) = j_ := ⟨_,rfl⟩
          replace H : (if 0 ≤ (ah) then (if (ah) ≤ (ad.length : Int) then (some (aB.take ((ah) : Int).toNat)) else (none)) else (none)) = some r := by first|(rw [an] at H;exact H)|(simp only [an] at H ⊢;exact H)
          (try rw [an] at bj)
          have bS : (IntKind.i64.wrap (aa + 1)) = ah := (i64_w _).trans an
          obtain ⟨bT,H⟩ := iS H
          have cF := eq_true bT
          have cG := decide_eq_true bT
          clear bT
          obtain ⟨bU,H⟩ := iS H
          have cH := eq_true bU
          have cI := decide_eq_true bU
          clear bU
          obtain ⟨bm,ao⟩ : ∃ y_ : List ByteArray,y_ = (aB.take ((ah) : Int).toNat) := ⟨_,rfl⟩
          replace H : (some bm) = some r := by first|(rw [ao];with_reducible exact H)|(have ag := (Option.bind_some _ _).symm.trans H;rw [ao];with_reducible exact ag)|(have ag := (Option.bind_some _ _).symm.trans H;with_reducible exact ag)|with_reducible exact H|(rw [ao];exact H)|exact H
          have aL := aK ao
          clear ao
          obtain rfl := Option.some.inj H
          go_wp2_with (first|((with_reducible refine gate_callee (f := 112) rfl ?_);refine gL 39 Tryz.func112 #[.string ab,.string a1] ?_;(with_reducible refine (strings_Index.calls ab a1 af _ bj.out).mono ?_);rintro e w' ⟨rfl,⟨nd,rfl⟩⟩;refine ⟨_,rfl,?_⟩;(try (rw [drewN_self wr];generalize hq_ : World.drewN wr _ = wr;have bn : Aside0 (Kd.R Kd.string 9 wr w.heap.size (fun _ => True) aQ ad) := ⟨by rw [← hq_];exact (rM ac.out)⟩;have bo : Aside0 (Below w.heap.size w wr) := ⟨by rw [← hq_];exact (bM HB.out)⟩;clear ac HB hq_;have ac := bn;have HB := bo;clear bn bo));have bV : 0 ≤ (aa : Int) := dA;have bW : (aa : Int) < ((ad.length : Int) : Int) := dA;obtain ⟨aC,bp,bq,br,bX,dj,bs⟩ := Kd.R_form ac.out (by omega);(first|cases bq|(injection bq with ea_ en_ ec_;(first|subst ea_|(injection ea_ with ea_;subst ea_));subst ec_;clear en_));have bY := aK br;have dk := aK bs;clear br bX bs;obtain ⟨bZ,b1⟩ := Kd.R_celln (⟨#[]⟩ : ByteArray) ac.out (aa : Int) bV bW;replace bV := eq_true bV;replace bW := eq_true bW;obtain ⟨cJ,cK⟩ := Kd.R_celln (⟨#[]⟩ : ByteArray) ac.out (aa : Int) (dA) (dA);have aR := Kd.R_putg ac.out (aa : Int) ab)|((with_reducible refine gate_store (t := 9) (p := 61) rfl ?_);refine store_event (t := 9) (p := 61) (v := ?b2) (w1 := (wr.setCell ⟨aC,(aa : Int).toNat,none⟩ (.string ab))) ?hg ?ho ?hn ?hr ?_;(case ho => rfl);(case hg => rfl);(case hn => rfl);(case hr => first|(go_simp;done)|(go_simp;rfl));intro b3 hw;have hg : wr.grownBy b3 (some aC) := (by rw [hw];exact aR.2);have hp_ : Kd.R Kd.string 9 b3 w.heap.size (fun _ => True) (.slice (some ⟨aC,0,none⟩) ad.length bp) aB := (by rw [hw,aJ.out];exact aR.1);clear aR;replace ac := aK (hp_);replace HB := aK ((by rw [hw];exact below_set (HB.out) bY.out : Below w.heap.size w b3));clear hg hw hp_;have hyl_ := congrArg List.length aJ.out;rw [List.length_set] at hyl_;have b4 : ((ah) : Int) ≤ ((ad.length : Int) : Int) := dA;obtain ⟨dl,aM,_,bu,_⟩ := info_parts info9;have aS := cut_to (P := Tryz.prog) 44 9 .i64 Tryz.underlying44 aM (some ⟨aC,0,none⟩) ad.length bp (ah) (dA) b4 (Kd.R_reads' ac.out).2.1;have aD := Kd.R_take (m := ((ah) : Int).toNat) ac.out (by omega);have bv : bm.length = ((ah) : Int).toNat := (by rw [aL.out,List.length_take];omega);rw [← aL.out] at aD;rw [← bv] at aD aS;clear hyl_ bv aM bu ac;have bx := aK aD;clear aD;replace b4 := eq_true b4))
          go_ret
          exact ⟨_,by first|rfl|(simp [errW_none,errW_some] <;> rfl)|(simp only [← ak,← an];first|rfl|(simp [errW_none,errW_some] <;> rfl))|(simp [*,errW_none,errW_some] <;> rfl),rM bx.out,bM HB.out⟩
         ·rw [if_neg aZ] at H
          have bk := decide_eq_false aZ
          clear aZ
          obtain ⟨av,aw⟩ : ∃ j_ : Int,(wrap64 (af + a2)) = j_ := ⟨_,rfl⟩
          replace H : (if 0 ≤ (av) then (if (av) ≤ (ab.size : Int) then (if 0 ≤ aa then (if aa < (ad.length : Int) then (if 0 ≤ (wrap64 (af + (a1.size : Int))) then (if (wrap64 (af + (a1.size : Int))) ≤ (ab.size : Int) then (strings_genSplit.l0 k2 (ab.extract ((wrap64 (af + (a1.size : Int))) : Int).toNat ab.size) a1 a2 (wrap64 ((ae) - 1)) (ad.set (aa : Int).toNat (ab.extract 0 ((av) : Int).toNat)) (wrap64 (aa + 1))) else (none)) else (none)) else (none)) else (none)) else (none)) else (none)) = some r := by first|(rw [aw] at H;exact H)|(simp only [aw] at H ⊢;exact H)
          (try rw [aw] at bj)
          have b5 : (IntKind.i64.wrap (af + a2)) = av := (i64_w _).trans aw
          obtain ⟨b6,H⟩ := iS H
          have cL := eq_true b6
          have cN := decide_eq_true b6
          clear b6
          obtain ⟨b7,H⟩ := iS H
          have cO := eq_true b7
          have cP := decide_eq_true b7
          clear b7
          obtain ⟨cQ,H⟩ := iS H
          have cR := decide_eq_true cQ
          clear cQ
          obtain ⟨cS,H⟩ := iS H
          have cT := decide_eq_true cS
          clear cS
          obtain ⟨aE,ap⟩ : ∃ y_ : List ByteArray,y_ = (ad.set (aa : Int).toNat (ab.extract 0 ((av) : Int).toNat)) := ⟨_,rfl⟩
          replace H : (if 0 ≤ (wrap64 (af + (a1.size : Int))) then (if (wrap64 (af + (a1.size : Int))) ≤ (ab.size : Int) then (strings_genSplit.l0 k2 (ab.extract ((wrap64 (af + (a1.size : Int))) : Int).toNat ab.size) a1 a2 (wrap64 ((ae) - 1)) aE (wrap64 (aa + 1))) else (none)) else (none)) = some r := by first|(rw [ap];with_reducible exact H)|(have ag := (Option.bind_some _ _).symm.trans H;rw [ap];with_reducible exact ag)|(have ag := (Option.bind_some _ _).symm.trans H;with_reducible exact ag)|with_reducible exact H|(rw [ap];exact H)|exact H
          have bz := aK ap
          clear ap
          obtain ⟨aA,aq⟩ : ∃ j_ : Int,(wrap64 (af + (a1.size : Int))) = j_ := ⟨_,rfl⟩
          replace H : (if 0 ≤ (aA) then (if (aA) ≤ (ab.size : Int) then (strings_genSplit.l0 k2 (ab.extract ((aA) : Int).toNat ab.size) a1 a2 (wrap64 ((ae) - 1)) aE (wrap64 (aa + 1))) else (none)) else (none)) = some r := by first|(rw [aq] at H;exact H)|(simp only [aq] at H ⊢;exact H)
          (try rw [aq] at bj)
          have b8 : (IntKind.i64.wrap (af + (a1.size : Int))) = aA := (i64_w _).trans aq
          obtain ⟨b9,H⟩ := iS H
          have cU := eq_true b9
          have cV := decide_eq_true b9
          clear b9
          obtain ⟨ca,H⟩ := iS H
          have cW := eq_true ca
          have cX := decide_eq_true ca
          clear ca
          have H' := aK H
          clear H
          go_wp2_with (first|((with_reducible refine gate_callee (f := 112) rfl ?_);refine gL 39 Tryz.func112 #[.string ab,.string a1] ?_;(with_reducible refine (strings_Index.calls ab a1 af _ bj.out).mono ?_);rintro e w' ⟨rfl,⟨nd,rfl⟩⟩;refine ⟨_,rfl,?_⟩;(try (rw [drewN_self wr];generalize hq_ : World.drewN wr _ = wr;have bn : Aside0 (Kd.R Kd.string 9 wr w.heap.size (fun _ => True) aQ ad) := ⟨by rw [← hq_];exact (rM ac.out)⟩;have bo : Aside0 (Below w.heap.size w wr) := ⟨by rw [← hq_];exact (bM HB.out)⟩;clear ac HB hq_;have ac := bn;have HB := bo;clear bn bo));have cb : 0 ≤ (aa : Int) := dA;have cc : (aa : Int) < ((ad.length : Int) : Int) := dA;obtain ⟨aT,cd,bB,bC,ce,dm,bD⟩ := Kd.R_form ac.out (by omega);(first|cases bB|(injection bB with ea_ en_ ec_;(first|subst ea_|(injection ea_ with ea_;subst ea_));subst ec_;clear en_));have cf := aK bC;have dn := aK bD;clear bC ce bD;obtain ⟨cg,ch⟩ := Kd.R_celln (⟨#[]⟩ : ByteArray) ac.out (aa : Int) cb cc;replace cb := eq_true cb;replace cc := eq_true cc;obtain ⟨cY,cZ⟩ := Kd.R_celln (⟨#[]⟩ : ByteArray) ac.out (aa : Int) (dA) (dA);have aU := Kd.R_putg ac.out (aa : Int) (ab.extract 0 ((av) : Int).toNat))|((with_reducible refine gate_store (t := 9) (p := 49) rfl ?_);refine store_event (t := 9) (p := 49) (v := ?ci) (w1 := (wr.setCell ⟨aT,(aa : Int).toNat,none⟩ (.string (ab.extract 0 ((av) : Int).toNat)))) ?hg ?ho ?hn ?hr ?_;(case ho => rfl);(case hg => rfl);(case hn => rfl);(case hr => first|(go_simp;done)|(go_simp;rfl));intro cj hw;have hg : wr.grownBy cj (some aT) := (by rw [hw];exact aU.2);have hp_ : Kd.R Kd.string 9 cj w.heap.size (fun _ => True) (.slice (some ⟨aT,0,none⟩) ad.length cd) aE := (by rw [hw,bz.out];exact aU.1);clear aU;replace ac := aK (hp_);replace HB := aK ((by rw [hw];exact below_set (HB.out) cf.out : Below w.heap.size w cj));clear hg hw hp_))
          go_roundg k2
          case measure => have := cz.out;have := cA.out;omega
          case rel => exact ⟨(ab.extract ((aA) : Int).toNat ab.size),(aE),(wrap64 (aa + 1)),(by first|rfl|(simp;done)|(rw [Int.tdiv_eq_ediv_of_nonneg (by assumption)];done)|(rw [Int.tmod_eq_emod_of_nonneg (by assumption)];done)|(simp only [← aq] <;> (first|rfl|simp))|(simp [*];done)),(by first|rfl|(simp;done)|(simp [*];done)),H',⟨by have := cz.out;have := cA.out;omega⟩,⟨rM ac.out⟩,⟨bM HB.out⟩⟩
        ·rw [if_neg aY] at H
         have bh := decide_eq_false aY
         clear aY
         obtain ⟨c0,H⟩ := iS H
         have c1 := decide_eq_true c0
         clear c0
         obtain ⟨da,H⟩ := iS H
         have db := decide_eq_true da
         clear da
         obtain ⟨aF,ar⟩ : ∃ y_ : List ByteArray,y_ = (ad.set (aa : Int).toNat ab) := ⟨_,rfl⟩
         replace H : (if 0 ≤ (wrap64 (aa + 1)) then (if (wrap64 (aa + 1)) ≤ (ad.length : Int) then (some (aF.take ((wrap64 (aa + 1)) : Int).toNat)) else (none)) else (none)) = some r := by first|(rw [ar];with_reducible exact H)|(have ag := (Option.bind_some _ _).symm.trans H;rw [ar];with_reducible exact ag)|(have ag := (Option.bind_some _ _).symm.trans H;with_reducible exact ag)|with_reducible exact H|(rw [ar];exact H)|exact H
         have aN := aK ar
         clear ar
         obtain ⟨ai,ax⟩ : ∃ j_ : Int,(wrap64 (aa + 1)) = j_ := ⟨_,rfl⟩
         replace H : (if 0 ≤ (ai) then (if (ai) ≤ (ad.length : Int) then (some (aF.take ((ai) : Int).toNat)) else (none)) else (none)) = some r := by first|(rw [ax] at H;exact H)|(simp only [ax] at H ⊢;exact H)
         have ck : (IntKind.i64.wrap (aa + 1)) = ai := (i64_w _).trans ax
         obtain ⟨cl,H⟩ := iS H
         have dc := eq_true cl
         have dd := decide_eq_true cl
         clear cl
         obtain ⟨cm,H⟩ := iS H
         have de := eq_true cm
         have df := decide_eq_true cm
         clear cm
         obtain ⟨bE,au⟩ : ∃ y_ : List ByteArray,y_ = (aF.take ((ai) : Int).toNat) := ⟨_,rfl⟩
         replace H : (some bE) = some r := by first|(rw [au];with_reducible exact H)|(have ag := (Option.bind_some _ _).symm.trans H;rw [au];with_reducible exact ag)|(have ag := (Option.bind_some _ _).symm.trans H;with_reducible exact ag)|with_reducible exact H|(rw [au];exact H)|exact H
         have aO := aK au
         clear au
         obtain rfl := Option.some.inj H
         have cn : 0 ≤ (aa : Int) := dA
         have co : (aa : Int) < ((ad.length : Int) : Int) := dA
         obtain ⟨aG,bF,bH,bI,cp,dp,bJ⟩ := Kd.R_form ac.out (by omega)
         (first|cases bH|(injection bH with ea_ en_ ec_;(first|subst ea_|(injection ea_ with ea_;subst ea_));subst ec_;clear en_))
         have cq := aK bI
         have dq := aK bJ
         clear bI cp bJ
         obtain ⟨cr,cs⟩ := Kd.R_celln (⟨#[]⟩ : ByteArray) ac.out (aa : Int) cn co
         replace cn := eq_true cn
         replace co := eq_true co
         have aV := Kd.R_putg ac.out (aa : Int) ab
         go_wp2_with (first|((with_reducible refine gate_store (t := 9) (p := 61) rfl ?_);refine store_event (t := 9) (p := 61) (v := ?ct) (w1 := (wr.setCell ⟨aG,(aa : Int).toNat,none⟩ (.string ab))) ?hg ?ho ?hn ?hr ?_;(case ho => rfl);(case hg => rfl);(case hn => rfl);(case hr => first|(go_simp;done)|(go_simp;rfl));intro cu hw;have hg : wr.grownBy cu (some aG) := (by rw [hw];exact aV.2);have hp_ : Kd.R Kd.string 9 cu w.heap.size (fun _ => True) (.slice (some ⟨aG,0,none⟩) ad.length bF) aF := (by rw [hw,aN.out];exact aV.1);clear aV;replace ac := aK (hp_);replace HB := aK ((by rw [hw];exact below_set (HB.out) cq.out : Below w.heap.size w cu));clear hg hw hp_;have hyl_ := congrArg List.length aN.out;rw [List.length_set] at hyl_;have cv : ((ai) : Int) ≤ ((ad.length : Int) : Int) := dA;obtain ⟨dr,aP,_,bK,_⟩ := info_parts info9;have aW := cut_to (P := Tryz.prog) 44 9 .i64 Tryz.underlying44 aP (some ⟨aG,0,none⟩) ad.length bF (ai) (dA) cv (Kd.R_reads' ac.out).2.1;have aH := Kd.R_take (m := ((ai) : Int).toNat) ac.out (by omega);have bL : bE.length = ((ai) : Int).toNat := (by rw [aO.out,List.length_take];omega);rw [← aO.out] at aH;rw [← bL] at aH aW;clear hyl_ bL aP bK ac;have bN := aK aH;clear aH;replace cv := eq_true cv))
         go_ret
         exact ⟨_,by first|rfl|(simp [errW_none,errW_some] <;> rfl)|(simp only [← ak,← ax];first|rfl|(simp [errW_none,errW_some] <;> rfl))|(simp [*,errW_none,errW_some] <;> rfl),rM bN.out,bM HB.out⟩
     ·rw [if_neg aX] at H
      exact absurd H (by simp)

/-! ### strings_Split: function 90 -/
def strings_Split.f (k : Nat) (a0 : ByteArray) (a1 : ByteArray) : Option (List ByteArray) := (strings_genSplit.f k a0 a1 0 (-1)).bind fun aa => (some aa)
theorem strings_Split.mono : ∀ a0 a1 k, LeO (strings_Split.f k a0 a1) (strings_Split.f (k + 1) a0 a1) := by
 intro a0 a1 k
 unfold strings_Split.f
 repeat' (with_reducible first|exact strings_genSplit.mono _ _ _ _ _|exact LeO.refl _|exact LeO.none _|refine LeO.ite ?_ ?_|refine LeO.bind ?_ (fun _ => ?_))
theorem strings_Split.calls (k : Nat) (a0 : ByteArray) (a1 : ByteArray) (r : List ByteArray) (w : World) (h : strings_Split.f k a0 a1 = some r) :
  Calls Tryz.prog 90 #[.string a0,.string a1] w fun e w' => ∃ ac : Value,e = .returned (ac) ∧ Kd.R Kd.string 9 w' w.heap.size (fun _ => True) ac r ∧ Below w.heap.size w w' := by
 have HB := aK (Below.refl w.heap.size w)
 have H : ((strings_genSplit.f k a0 a1 0 (-1)).bind fun aa => (some aa)) = some r := h
 clear h
 replace H := Option.bind_eq_some_iff.mp H
 obtain ⟨aa,ad,H⟩ := H
 have A3 := aK ad
 clear ad
 obtain rfl := Option.some.inj H
 go_enter Tryz.func90,Tryz.ntmps90
 go_wp2_with (first|((with_reducible refine gate_callee (f := 105) rfl ?_);refine gL 7 Tryz.func105 #[.string a0,.string a1,.int .i64 0,.int .i64 (-1)] ?_;(with_reducible refine (strings_genSplit.calls k a0 a1 0 (-1) aa _ A3.out).mono ?_);rintro e w4 ⟨af,rfl,ae,hb⟩;refine ⟨_,rfl,?_⟩;have ab := aK (Kd.R_lower ae (below_size (bM HB.out)));replace HB := aK (below_step (bM HB.out) hb);(try clear hb);(try clear ae)))
 go_ret
 exact ⟨_,by first|rfl|(simp [errW_none,errW_some] <;> rfl)|(simp [*,errW_none,errW_some] <;> rfl),rM ab.out,bM HB.out⟩
end Go.Proofs.YtgadbpljlpclnaaGreatDoor.H
