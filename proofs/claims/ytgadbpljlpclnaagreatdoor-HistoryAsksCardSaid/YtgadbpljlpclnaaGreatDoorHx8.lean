import Derived.Test.YtgadbpljlpclnaaGreatDoorHx0
import Derived.Test.YtgadbpljlpclnaaGreatDoorHx6
import Derived.Test.YtgadbpljlpclnaaGreatDoorHx7
import Derived.Test.YtgadbpljlpclnaaGreatDoorHx9
namespace Go.Proofs.YtgadbpljlpclnaaGreatDoor.H
open Go.RowKit Go.Proofs.YtgadbpljlpclnaaGreatDoorW.PrintWords Go.Proofs.YtgadbpljlpclnaaGreatDoorW.PrintLast Go.Proofs.YtgadbpljlpclnaaGreatDoorW.PrintMore
set_option maxHeartbeats 4000000
set_option maxRecDepth 100000
attribute [local go_sem] max2_int min2_int max_two min_two max_three min_three max_four min_four
set_option linter.unusedVariables false
set_option linter.unusedSimpArgs false

/-! ### history_Bases: function 28 (by hand) -/
open Go.Maps Go.Proofs.YtgadbpljlpclnaaGreatDoor.Q Go.Sort Go.Shelf
theorem bases1_gives {W : World} {B b n : Nat} {m : List Int} (hb : W.cell? ⟨B, 0, none⟩ = some (.map (some b))) (hS : ST Tryz.prog 3 4 W b n m) (x : Int) (hx : okV x = true) :
    FnGives Tryz.prog 46 #[.pointer (some ⟨B, 0, none⟩)] #[.int .i64 x] (.bool (!decide (x ∈ m))) W := by
  show Calls Tryz.prog 46 #[.int .i64 x, .pointer (some ⟨B, 0, none⟩)] W _
  have HS := aK hS
  have HK := aK (keyI_ok hx)
  clear hS hx
  go_enter Tryz.func46, Tryz.ntmps46
  go_wp2_with (first
    | (at_lookup
       refine wpList_lookup_setI _ rfl _ _ 62 rfl 3 4 lawI Tryz.underlying62 Tryz.underlying4 (zeroB _) b n m rfl HS.out x rfl HK.out ?_))
  go_ret
  exact ⟨rfl, 0, rfl⟩
theorem st_look_ {P : Program} {k e t : TypeId} {w : World} {b n : Nat} {s : List Int} (hown : ST P k e w b n s) (K : Keyed P k) (ht : P.underlying t = some (.map k e)) (he : P.underlying e = some .bool) (hz : (zeroValue e).run P w = .ok (.bool false) w) {key : Int} (hkey : keyOf P k (.int .i64 key) = some (kI key)) :
    (Instr.lookup t (.map (some b)) (.int .i64 key) false).run P w = .ok (.bool (decide (key ∈ s))) w := by
  obtain ⟨D, h1, h2⟩ := hown
  obtain ⟨v, ps, hrun, hv⟩ := h1.lookup K ht hz (plainElem_bool he false) hkey
  obtain ⟨c, rfl, hc⟩ := plainElem_bool_invI he hv
  have h3 := (congrArg Prod.fst hc).symm.trans (h2 key).2
  have h4 : c = decide (key ∈ s) := by
    dsimp only at h3
    injection h3 with h3
    injection h3
  rw [hrun, h4]
theorem st_drew_ {P : Program} {k e : TypeId} {w : World} {b n : Nat} {s : List Int} (h : ST P k e w b n s) : ST P k e w.drew b n s := let ⟨D, h1, h2⟩ := h; ⟨D, h1.drew, h2⟩
theorem bases2_same {w : World} {Bn Bl : Nat} {x : Int} (hn : w.cell? ⟨Bn, 0, none⟩ = some (.int .i64 x)) :
    Calls Tryz.prog 48 #[.int .i64 x, .pointer (some ⟨Bn, 0, none⟩), .pointer (some ⟨Bl, 0, none⟩)] w fun e w' => e = .returned (.bool false) ∧ Below w.heap.size w w' := by
  have c1 : (x != x) = false := by simp
  go_enter Tryz.func48, Tryz.ntmps48
  go_wp2
  repeat (go_quiet (fail); try go_wp2)
  go_ret
  exact ⟨rfl, pw_below_drewN (Below.refl _ _) _⟩
theorem bases2_calls (k : Nat) (P0_ : Nat → Prop) {A0 : Option Addr} {c0 : Nat} {l0 : List S28} {w : World} {Bn Bl : Nat} {nv x : Int} {m : List Int} (hn : w.cell? ⟨Bn, 0, none⟩ = some (.int .i64 nv)) (hl : w.cell? ⟨Bl, 0, none⟩ = some (.slice A0 l0.length c0)) (hV : Kd.V k28 28 w w.heap.size (fun k_ => P0_ k_) (.slice A0 l0.length c0) l0) (hx : x ≠ nv) (hm : history_ancestors.f k l0 x = some m) (hok : okV nv = true) :
    Calls Tryz.prog 48 #[.int .i64 x, .pointer (some ⟨Bn, 0, none⟩), .pointer (some ⟨Bl, 0, none⟩)] w fun e w' => e = .returned (.bool (decide (nv ∈ m))) ∧ Below w.heap.size w w' := by
  have c1 : (x != nv) = true := by simpa using hx
  have hBd : Below w.heap.size w w.drew := below_drew (Below.refl _ _)
  have hcl : Aside0 (Calls Tryz.prog 40 #[.slice A0 l0.length c0, .int .i64 x] w.drew fun e w3 => ∃ b, e = .returned (.map (some b)) ∧ w3.cell? ⟨Bn, 0, none⟩ = some (.int .i64 nv) ∧ w3.cell? ⟨Bl, 0, none⟩ = some (.slice A0 l0.length c0) ∧ Below w.heap.size w w3 ∧ (Instr.lookup 62 (.map (some b)) (.int .i64 nv) false).run Tryz.prog w3 = .ok (.bool (decide (nv ∈ m))) w3 ∧ (Instr.lookup 62 (.map (some b)) (.int .i64 nv) false).run Tryz.prog w3.drew = .ok (.bool (decide (nv ∈ m))) w3.drew) := ⟨by
    refine (history_ancestors.calls_ k P0_ A0 c0 l0 x m w.drew (Kd.V_below hV hBd) hm).mono ?_
    rintro e w3 ⟨b, rfl, hb3, hM3, hb4⟩
    have hlk := st_look_ hM3 (t := 62) lawI Tryz.underlying62 Tryz.underlying4 (zeroB _) (keyI_ok hok)
    have hlk2 := st_look_ (st_drew_ hM3) (t := 62) lawI Tryz.underlying62 Tryz.underlying4 (zeroB _) (keyI_ok hok)
    have hb5 := below_then hBd hBd.size hb4
    exact ⟨b, rfl, pw_cell_below hb5 hn, pw_cell_below hb5 hl, hb5, hlk, hlk2⟩⟩
  clear hV hx hm hok
  go_enter Tryz.func48, Tryz.ntmps48
  go_wp2
  go_region_held3 (fun w' => w'.cell? ⟨Bn, 0, none⟩ = some (.int .i64 nv) ∧ w'.cell? ⟨Bl, 0, none⟩ = some (.slice A0 l0.length c0) ∧ Below w.heap.size w w')
    (first
      | exact ⟨by assumption, by assumption, by assumption⟩
      | exact ⟨by go_keep, by go_keep, by assumption⟩
      | exact ⟨by go_keep, by go_keep, below_drew (by assumption)⟩)
    (first
      | (go_at_call 40
         refine hcl.out.mono ?_
         rintro e w3 ⟨b, rfl, hcz3, hcl3, hB4, hlk, hlk2⟩))
  all_goals (go_wp2; go_ret; exact ⟨rfl, by assumption⟩)
/-- Is one of these, but not the number itself, a descendant of it? -/
def anyB (k : Nat) (l : List S28) (nv : Int) : List Int → Option Bool
  | [] => some false
  | x :: xs => if x = nv then anyB k l nv xs else (history_ancestors.f k l x).bind fun m => if nv ∈ m then some true else anyB k l nv xs
theorem anyB_mono (k : Nat) (l : List S28) (nv : Int) : ∀ (xs : List Int), LeO (anyB k l nv xs) (anyB (k + 1) l nv xs)
  | [] => LeO.refl _
  | x :: xs => LeO.ite (anyB_mono k l nv xs) (LeO.bind (history_ancestors.mono _ _ _) (fun _ => LeO.ite (LeO.refl _) (anyB_mono k l nv xs)))
def basesL (k : Nat) (l : List S28) (both : List Int) : List Int → List Int → Option (List Int)
  | [], r => some r
  | x :: xs, r => if okV x = true then (anyB k l x both).bind fun b => if b = true then basesL k l both xs r else basesL k l both xs (r ++ [x]) else none
theorem basesL_mono (k : Nat) (l : List S28) (both : List Int) : ∀ (xs r : List Int), LeO (basesL k l both xs r) (basesL (k + 1) l both xs r)
  | [], _ => LeO.refl _
  | x :: xs, r => LeO.ite (LeO.bind (anyB_mono k l x both) (fun _ => LeO.ite (basesL_mono k l both xs r) (basesL_mono k l both xs (r ++ [x])))) (LeO.refl _)
theorem basesL_len {k : Nat} {l : List S28} {both : List Int} : ∀ (xs r s : List Int), basesL k l both xs r = some s → s.length ≤ r.length + xs.length
  | [], r, s, h => by obtain rfl := Option.some.inj h; simp
  | x :: xs, r, s, h => by
    rw [basesL] at h
    split at h
    · obtain ⟨b, _, h2⟩ := Option.bind_eq_some_iff.1 h
      split at h2
      · have := basesL_len xs _ _ h2; rw [List.length_cons]; omega
      · have := basesL_len xs _ _ h2; rw [List.length_append, List.length_singleton] at this; rw [List.length_cons]; omega
    · cases h
theorem int_cell {w : World} {A : Option Addr} {l : List Int} (h : (Kd.int .i64).C w A l.length l) (i : Nat) (hi : i < l.length) : ∃ ad, A = some ad ∧ w.cell? (ad.add i) = some (.int .i64 l[i]) := by
  obtain ⟨ad, he, hc⟩ := Kd.at_int h (i : Int) (by omega) (by omega)
  rw [Int.toNat_natCast] at hc
  refine ⟨ad, he, ?_⟩
  rw [hc]
  simp [Go.Proofs.YtgadbpljlpclnaaGreatDoorW.PrintWords.rd, List.getD_eq_getElem?_getD, List.getElem?_eq_getElem hi]
theorem idxB_calls (k : Nat) {A0 : Option Addr} {c0 : Nat} {l0 : List S28} {w : World} {Bn Bl : Nat} {nv : Int} {Ab : Option Addr} {cb : Nat} {both : List Int} {r : Bool} (hn : w.cell? ⟨Bn, 0, none⟩ = some (.int .i64 nv)) (hl : w.cell? ⟨Bl, 0, none⟩ = some (.slice A0 l0.length c0)) (hV : Kd.V k28 28 w w.heap.size (fun k_ => k_ < w.heap.size) (.slice A0 l0.length c0) l0) (hb : (Kd.int .i64).C w Ab both.length both) (hbl : both.length ≤ 1000000) (hok : okV nv = true) (h : anyB k l0 nv both = some r) :
    Calls Tryz.prog 62 #[.slice Ab both.length cb, .func (.func 48) #[] #[.pointer (some ⟨Bn, 0, none⟩), .pointer (some ⟨Bl, 0, none⟩)]] w fun e w' => (∃ i : Int, e = .returned (.int .i64 i) ∧ decide (0 ≤ i) = r) ∧ Below w.heap.size w w' := by
  have HN := aK hn
  have HL := aK hl
  have HV := aK hV
  have HC := aK (And.intro hb (And.intro hbl hok))
  have H := aK h
  clear hn hl hV hb hbl hok h
  go_enter Tryz.func62, Tryz.ntmps62
  go_wp2
  go_loopg [5, 8] both.length (fun kq _ v8 w' => ∃ (i : Nat), v8 = .int .i64 (i : Int) ∧ Aside0 (i ≤ both.length ∧ both.length - i ≤ kq) ∧ Aside0 (anyB k l0 nv (both.drop i) = some r) ∧ Aside0 (Below w.heap.size w w'))
  case atStart => exact ⟨0, rfl, ⟨Nat.zero_le _, by omega⟩, ⟨by rw [List.drop_zero]; exact H.out⟩, ⟨Below.refl _ _⟩⟩
  case round =>
    obtain ⟨i, rfl, HK, HA, HB⟩ := hrel
    by_cases hlt : i < both.length
    · cases gk with
      | zero => exfalso; have := HK.out; omega
      | succ k1 =>
        have c1 : decide ((i : Int) < (both.length : Int)) = true := decide_eq_true (by omega)
        obtain ⟨ad, e, hx⟩ := int_cell HC.out.1 i hlt
        subst e
        replace hx := (HB.out.cell (World.block_lt_of_cell? w _ hx)).trans hx
        have p : (0 ≤ (i : Int)) = True := eq_true (by omega)
        have q : ((i : Int) < (both.length : Int)) = True := eq_true (by omega)
        have hA := HA.out
        rw [List.drop_eq_getElem_cons hlt, anyB] at hA
        have hBn := (HB.out.cell (World.block_lt_of_cell? w _ HN.out)).trans HN.out
        have hBl := (HB.out.cell (World.block_lt_of_cell? w _ HL.out)).trans HL.out
        generalize both[i] = x at hx hA
        by_cases hxe : x = nv
        · subst hxe
          rw [if_pos rfl] at hA
          have HN2 := aK hA
          have hcl := aK (bases2_same (Bl := Bl) hBn)
          clear hA HA hBn hBl
          go_wp2_with (first
            | (go_at_call 48
               refine hcl.out.mono ?_
               rintro e w3 ⟨rfl, hb3⟩
               have n0_ := aK (below_then HB.out HB.out.size hb3)
               clear HB hb3 hcl hx
               have HB := n0_; clear n0_))
          go_roundg k1
          case measure => omega
          case rel => exact ⟨i + 1, by rw [w_incV_ i (by have := HC.out.2.1; omega)], ⟨by omega, by have := HK.out; omega⟩, HN2, HB⟩
        · rw [if_neg hxe] at hA
          obtain ⟨m, h3, h4⟩ := Option.bind_eq_some_iff.1 hA
          have hcl := aK (bases2_calls k (fun k => k < w.heap.size) hBn hBl (Kd.V_below HV.out HB.out) hxe h3 HC.out.2.2)
          clear hA HA hBn hBl h3
          by_cases hm : nv ∈ m
          · rw [if_pos hm] at h4
            obtain rfl := Option.some.inj h4
            rw [decide_eq_true hm] at hcl
            clear h4
            go_wp2_with (first
              | (go_at_call 48
                 refine hcl.out.mono ?_
                 rintro e w3 ⟨rfl, hb3⟩
                 have n0_ := aK (below_then HB.out HB.out.size hb3)
                 clear HB hb3 hcl hx
                 have HB := n0_; clear n0_))
            go_ret
            exact ⟨⟨_, rfl, decide_eq_true (by omega)⟩, HB.out⟩
          · rw [if_neg hm] at h4
            rw [decide_eq_false hm] at hcl
            have HN2 := aK h4
            clear h4
            go_wp2_with (first
              | (go_at_call 48
                 refine hcl.out.mono ?_
                 rintro e w3 ⟨rfl, hb3⟩
                 have n0_ := aK (below_then HB.out HB.out.size hb3)
                 clear HB hb3 hcl hx
                 have HB := n0_; clear n0_))
            go_roundg k1
            case measure => omega
            case rel => exact ⟨i + 1, by rw [w_incV_ i (by have := HC.out.2.1; omega)], ⟨by omega, by have := HK.out; omega⟩, HN2, HB⟩
    · have c1 : decide ((i : Int) < (both.length : Int)) = false := decide_eq_false (by omega)
      have hA := HA.out
      rw [List.drop_of_length_le (by omega), anyB] at hA
      obtain rfl := Option.some.inj hA
      clear hA
      go_wp2
      go_ret
      exact ⟨⟨_, rfl, rfl⟩, HB.out⟩
theorem containsB_calls (k : Nat) {A0 : Option Addr} {c0 : Nat} {l0 : List S28} {w : World} {Bn Bl : Nat} {nv : Int} {Ab : Option Addr} {cb : Nat} {both : List Int} {r : Bool} (hn : w.cell? ⟨Bn, 0, none⟩ = some (.int .i64 nv)) (hl : w.cell? ⟨Bl, 0, none⟩ = some (.slice A0 l0.length c0)) (hV : Kd.V k28 28 w w.heap.size (fun k_ => k_ < w.heap.size) (.slice A0 l0.length c0) l0) (hb : (Kd.int .i64).C w Ab both.length both) (hbl : both.length ≤ 1000000) (hok : okV nv = true) (h : anyB k l0 nv both = some r) :
    Calls Tryz.prog 47 #[.slice Ab both.length cb, .func (.func 48) #[] #[.pointer (some ⟨Bn, 0, none⟩), .pointer (some ⟨Bl, 0, none⟩)]] w fun e w' => e = .returned (.bool r) ∧ Below w.heap.size w w' := by
  have hcl := aK (idxB_calls (cb := cb) k hn hl hV hb hbl hok h)
  clear hn hl hV hb hbl hok h
  go_enter Tryz.func47, Tryz.ntmps47
  go_wp2_with (first
    | (go_at_call 62
       refine hcl.out.mono ?_
       rintro e w3 ⟨⟨i, rfl, hi⟩, hb3⟩
       have HB := aK hb3
       clear hb3 hcl))
  go_ret
  exact ⟨by rw [← hi]; rfl, HB.out⟩
def history_Bases.f (k : Nat) (l0 : List S28) (a1 a2 : Int) : Option (List Int) := (history_ancestors.f k l0 a2).bind fun o => (history_Ancestors.f k l0 a1).bind fun m => basesL k l0 (m.filter fun x => !(!decide (x ∈ o))) (m.filter fun x => !(!decide (x ∈ o))) []
theorem history_Bases.mono : ∀ a0 a1 a2 k, LeO (history_Bases.f k a0 a1 a2) (history_Bases.f (k + 1) a0 a1 a2) := by
  intro a0 a1 a2 k
  unfold history_Bases.f
  exact LeO.bind (history_ancestors.mono _ _ _) (fun n => LeO.bind (history_Ancestors.mono _ _ _) (fun m => basesL_mono _ _ _ _ _))
theorem history_Bases.calls (k : Nat) (A0 : Option Addr) (c0 : Nat) (l0 : List (S28)) (a1 : Int) (a2 : Int) (r : List Int) (w : World) (aC : Kd.C k28 w A0 l0.length l0) (aD : l0.length ≤ c0) (h : history_Bases.f k l0 a1 a2 = some r) :
    Calls Tryz.prog 28 #[.slice A0 l0.length c0, .int .i64 a1, .int .i64 a2] w fun e w' => ∃ aE : Value, e = .returned (aE) ∧ Kd.R (Kd.int .i64) 3 w' w.heap.size (fun _ => True) aE r ∧ Below w.heap.size w w' := by
  unfold history_Bases.f at h
  obtain ⟨o, h1, h2⟩ := Option.bind_eq_some_iff.1 h
  obtain ⟨m, h3, h4⟩ := Option.bind_eq_some_iff.1 h2
  have HV := aK (Kd.V_mk (e := 28) (base := w.heap.size) aD (Kd.C_F k28_heap aC))
  have H1 := aK h1
  have H3 := aK h3
  have H4 := aK h4
  have info3 : (Tryz.prog.info? 3).map (fun i => (i.zero, i.size, i.bytes)) = some (some (.int .i64 0), 1, 8) := by kernel_rfl
  have HI := aK info3
  clear h h1 h2 h3 h4 aC aD info3
  go_enter Tryz.func28, Tryz.ntmps28
  go_wp2_with fail
  go_at_call 40
  have am := aK (below_alloc (Below.refl w.heap.size w) (Obj.cells #[Value.slice A0 l0.length c0] 22))
  refine (history_ancestors.calls_ k (fun k => k < w.heap.size) A0 c0 l0 a2 o (w.alloc (Obj.cells #[Value.slice A0 l0.length c0] 22)) (Kd.V_below HV.out am.out) H1.out).mono ?_
  rintro e w4 ⟨b, rfl, an, aw, ax⟩
  have aa := below_then am.out am.out.size ax
  have aF : w4.cell? ⟨w.heap.size, 0, none⟩ = some (.slice A0 l0.length c0) := (ax.cell (by simp)).trans (by simp)
  generalize ao : w4.alloc (Obj.cells #[Value.map (some b)] 62) = W5
  have ap : Below w4.heap.size w4 W5 := by rw [← ao]; exact below_alloc (Below.refl _ _) _
  have aq := aK (below_then aa aa.size ap)
  have aG := aK (aw.below ap)
  have hBX : W5.cell? ⟨w4.heap.size, 0, none⟩ = some (.map (some b)) := by rw [← ao]; simp
  have ak := aK (show b < W5.heap.size ∧ w4.heap.size < W5.heap.size ∧ w.heap.size < W5.heap.size by
    have h1 := aw.lt
    have h2 := aa.size
    rw [← ao]; simp; omega)
  have aH : W5.cell? ⟨w.heap.size, 0, none⟩ = some (.slice A0 l0.length c0) := pw_cell_below ap aF
  have HBX := aK hBX
  have aI := aK aH
  have hcl := aK (history_Ancestors.callz k (fun k => k < w.heap.size) A0 c0 l0 a1 m W5 (Kd.V_below HV.out aq.out) H3.out)
  clear an aw ax aa ap aF
  go_wp2_with fail
  clear ao hBX aH
  refine hcl.out.mono ?_
  rintro e w5 ⟨v, rfl, ay, ar⟩
  have hown := Kd.own_of_R ay
  have hbs := Kd.R_base ay
  have hok := Ancs_ok H3.out
  have hd := aK (del_rowI (w := W5) hok.1 (fun x => !decide (x ∈ o)) 46 #[.pointer (some ⟨w4.heap.size, 0, none⟩)] (enters_of Tryz.func46 (by kernel_rfl) rfl) hown ar (by have := hok.2; omega)
    (fun W' hg x hx => bases1_gives (hg.cell ((ar.cell ak.out.2.1).trans HBX.out) (fun e => by have h9 : W5.heap.size ≤ w4.heap.size := hbs _ e.symm; have := ak.out; omega)) ((aG.out.below ar).grown hg (fun e => by have := hbs _ e.symm; have := ak.out; omega)) x hx))
  have HBL := aK hok.2
  clear hcl ay ar hown hbs hok
  go_wp2_with fail
  go_at_call 43
  refine hd.out.mono ?_
  rintro e w6 ⟨v', rfl, ag, az⟩
  replace ag : Kd.R (Kd.int .i64) 3 w6 W5.heap.size (fun _ => True) v' (m.filter fun x => !(!decide (x ∈ o))) := ag
  have hfl : (m.filter fun x => !(!decide (x ∈ o))).length ≤ 1000000 := Nat.le_trans (List.length_filter_le _ _) HBL.out
  generalize (m.filter fun x => !(!decide (x ∈ o))) = both at ag hfl H4
  obtain ⟨Ab, cb, rfl⟩ := Kd.R_slice ag
  have HC := aK (And.intro (Kd.R_reads' ag).2.2 hfl)
  have aJ := aK ((az.cell ak.out.2.2).trans aI.out)
  have al := aK (below_then aq.out aq.out.size az)
  clear hd ag az hfl HBL aG HBX ak aI aq am H1 H3
  go_wp2
  go_loopg [9, 22] both.length (fun kq v9 aO w' => ∃ (i : Nat) (out : List Int), aO = .int .i64 (i : Int) ∧ Aside0 (i ≤ both.length ∧ both.length - i ≤ kq ∧ out.length ≤ i) ∧ Aside0 (basesL k l0 both (both.drop i) out = some r) ∧ Aside0 (Kd.R (Kd.int .i64) 3 w' w6.heap.size (fun _ => True) v9 out) ∧ Aside0 (Below w6.heap.size w6 w'))
  case atStart => exact ⟨0, [], rfl, ⟨Nat.zero_le _, by omega, Nat.le_refl _⟩, ⟨by rw [List.drop_zero]; exact H4.out⟩, ⟨Kd.R_nil _ _ _ _ _⟩, ⟨Below.refl _ _⟩⟩
  case round =>
    obtain ⟨i, out, rfl, HK, HA, HO, HB⟩ := hrel
    by_cases hlt : i < both.length
    · cases gk with
      | zero => exfalso; have := HK.out; omega
      | succ k1 =>
        have c1 : decide ((i : Int) < (both.length : Int)) = true := decide_eq_true (by omega)
        obtain ⟨ad, e, hx⟩ := int_cell HC.out.1 i hlt
        subst e
        replace hx := (HB.out.cell (World.block_lt_of_cell? w6 _ hx)).trans hx
        have p : (0 ≤ (i : Int)) = True := eq_true (by omega)
        have q : ((i : Int) < (both.length : Int)) = True := eq_true (by omega)
        have hA := HA.out
        rw [List.drop_eq_getElem_cons hlt, basesL] at hA
        generalize both[i] = x at hx hA
        split at hA
        case isFalse => cases hA
        rename_i hok
        obtain ⟨b1, h5, h6⟩ := Option.bind_eq_some_iff.1 hA
        generalize aL : wr.alloc (Obj.cells #[Value.int .i64 x] 3) = W7
        have aA : Below wr.heap.size wr W7 := by rw [← aL]; exact below_alloc (Below.refl _ _) _
        have ah := below_then HB.out HB.out.size aA
        have au : W7.cell? ⟨wr.heap.size, 0, none⟩ = some (.int .i64 x) := by rw [← aL]; simp
        have aM : W7.cell? ⟨w.heap.size, 0, none⟩ = some (.slice A0 l0.length c0) := (ah.cell (World.block_lt_of_cell? w6 _ aJ.out)).trans aJ.out
        have hcl := aK (containsB_calls (cb := cb) k au aM (Kd.V_mono (Kd.V_below (Kd.V_below HV.out al.out) ah) (fun k hk => by have := al.out.size; have := ah.size; omega)) (Kd.C_below HC.out.1 ah) HC.out.2 hok h5)
        have av := aK (Kd.R_below HO.out aA)
        have ai := aK ah
        have aP := aK au
        have HN := aK h6
        clear hA HA aA ah aM h5 h6 hok
        cases b1 with
        | true =>
          go_wp2_with (first
            | (go_at_call 47
               refine hcl.out.mono ?_
               rintro e w8 ⟨rfl, ab⟩
               have ac := aK (below_then ai.out ai.out.size ab)
               have ae := aK (Kd.R_below av.out ab)
               clear ai av ab hcl hx au
               have af := ac; have aj := ae; clear ac ae))
          go_roundg k1
          case measure => omega
          case rel => exact ⟨i + 1, out, by rw [w_incV_ i (by have := HC.out.2; omega)], ⟨by omega, by have := HK.out; omega, by have := HK.out; omega⟩, ⟨by simpa using HN.out⟩, aj, af⟩
        | false =>
          go_wp2_with (first
            | (go_at_call 47
               refine hcl.out.mono ?_
               rintro e w8 ⟨rfl, ab⟩
               have aQ : w8.cell? ⟨wr.heap.size, 0, none⟩ = some (.int .i64 x) := pw_cell_below ab aP.out
               have ac := aK (below_then ai.out ai.out.size ab)
               have ae := aK (Kd.R_below av.out ab)
               clear ai av ab hcl hx au
               have af := ac; have aj := ae; clear ac ae)
            | ((with_reducible refine gate_builtin (b := .append) (xs := #[.tmp 30, .tmp 32]) rfl ?_); at_builtin; refine Kd.R_append (Kd.int .i64) (w0 := w6) w6.heap.size rfl (.tmp 30) (.tmp 32) 25 3 (.int .i64 0) 8 rfl Tryz.underlying25 HI.out rfl (by decide) (by omega) _ out x [.int .i64 x] (fun _ => True) (fun _ => False) rfl rfl rfl (fun _ hk => hk.elim) (fun k hk => trivial) aj.out af.out af.out.size ?len ?_;
               (case len => have := HK.out; have := HC.out.2; omega);
               intro v4 w9 aN an aR aB
               have ac := aK aN; have ae := aK an
               clear aN an aR aB aj af aQ
               have aj := ac; have af := ae; clear ac ae))
          go_roundg k1
          case measure => omega
          case rel => exact ⟨i + 1, out ++ [x], by rw [w_incV_ i (by have := HC.out.2; omega)], ⟨by omega, by have := HK.out; omega, by have := HK.out; rw [List.length_append, List.length_singleton]; omega⟩, ⟨by simpa using HN.out⟩, aj, af⟩
    · have c1 : decide ((i : Int) < (both.length : Int)) = false := decide_eq_false (by omega)
      have hA := HA.out
      rw [List.drop_of_length_le (by omega), basesL] at hA
      obtain rfl := Option.some.inj hA
      clear hA
      go_wp2
      go_ret
      exact ⟨_, rfl, Kd.R_lower HO.out al.out.size, below_then al.out al.out.size HB.out⟩

/-! ### slices_Sort_string_string: function 50 (by hand) -/
open Go.Sort Go.Shelf
theorem below_sortedS {B : Nat} {w0 w : World} {g n : Nat} {d : Array (List UInt8)} {os : Array Obj} (h : Below B w0 w) (hg : B ≤ g) (hB : B ≤ w.heap.size) : Below B w0 (grow (putRow encStr (Sort.ahead w n) g 0 d) os) :=
  (Lib.below_putRow (enc := encStr) (q := n) (d := d) h hg).trans (Lib.below_grow B _ (by rw [size_putRow]; exact hB) 0 os)
theorem encStr_ofB (l : List (List UInt8)) : (l.map ofB).map Value.string = l.map encStr := by
  rw [List.map_map]; rfl
theorem own_sortedS {w : World} {base e g n cap q : Nat} {zs ys : List (List UInt8)} {os : Array Obj} (h : w.ownsRow base e 1 (.slice (some ⟨g, 0, none⟩) n cap) n (zs.map encStr)) (hy : ys.length = n) :
    (grow (putRow encStr (Sort.ahead w q) g 0 ys.toArray) os).ownsRow base e 1 (.slice (some ⟨g, 0, none⟩) n cap) n (ys.map encStr) := by
  have h1 := Lib.ownsRow_putRow (q := q) (k := n) h hy (Nat.le_refl _)
  rw [List.take_of_length_le (by omega)] at h1
  exact Lib.ownsRow_grow h1 0 os
def slices_Sort_string_string.f (l0 : List ByteArray) : Option (List ByteArray) := if l0.length < 4611686018427387904 then some (sortdS l0) else none
/-- A row of the call's own, sorted in its place. -/
theorem slices_Sort_string_string.sorts {w W : World} {v : Value} {l r : List ByteArray} (hR : Kd.R Kd.string 9 W w.heap.size (fun _ => True) v l) (hB : Below w.heap.size w W) (hl : slices_Sort_string_string.f l = some r) :
    Calls Tryz.prog 50 #[v] W fun e w' => e = .returned (.tuple #[]) ∧ Kd.R Kd.string 9 w' w.heap.size (fun _ => True) v r ∧ Below w.heap.size w w' := by
  unfold slices_Sort_string_string.f at hl
  split at hl
  case isFalse => cases hl
  rename_i hl0
  obtain rfl := Option.some.inj hl
  have ho := Kd.own_of_R hR
  by_cases hv : v = .slice none 0 0
  · subst hv
    obtain rfl : l = [] := by
      rcases ho.2 with ⟨_, h0⟩ | ⟨g, cap, cur, h1, _⟩
      · exact List.eq_nil_of_length_eq_zero h0
      · cases h1
    refine (Tryz.slices_Sort_string_none none 0 W).mono ?_
    rintro e w2 ⟨rfl, rfl⟩
    have e1 : sortdS ([] : List ByteArray) = [] := List.eq_nil_of_length_eq_zero (by have := sortdS_len []; simpa using this)
    rw [e1]
    exact ⟨rfl, hR, hB⟩
  · have ho' : W.ownsRow w.heap.size 9 1 v l.length ((l.map bl).map encStr) := by
      have e : (l.map bl).map encStr = l.map Value.string := by rw [List.map_map]; rfl
      rw [e]; exact ho
    obtain ⟨g, cap, rfl, hg, hlt, hn, hm, hll, hH⟩ := Lib.holds_of_ownsRow ho' hv
    have hs := Tryz.slices_Sort_string g 0 cap (l.map bl) W hH hlt (by rw [List.length_map]; omega)
    rw [List.length_map] at hs
    refine hs.mono ?_
    rintro e w2 ⟨rfl, n, os, rfl⟩
    have ho2 := own_sortedS (q := n) (os := os) ho' (ys := (l.map bl).mergeSort fun x y => decide (x ≤ y)) (by rw [List.length_mergeSort, List.length_map])
    have hB2 := below_sortedS (n := n) (d := ((l.map bl).mergeSort fun x y => decide (x ≤ y)).toArray) (os := os) hB hg (by omega)
    refine ⟨rfl, Kd.R_of_own ?_ (fun _ _ => trivial), hB2⟩
    rw [sortdS_len]
    show World.ownsRow _ _ _ _ _ _ ((sortdS l).map Value.string)
    rw [sortdS, encStr_ofB]
    exact ho2

/-! ### slices_Compact_string_string: function 51 (by hand) -/
theorem str_eq (x y : ByteArray) : (x.toList == y.toList) = decide (x = y) := by
  rw [ByteArray.toList_eq, ByteArray.toList_eq]
  by_cases h : x = y
  · subst h; simp
  · rw [decide_eq_false h]
    exact beq_eq_false_iff_ne.2 (fun e => h (bl_inj e))
theorem EqlAt.stringD (P : Program) (T : TypeId) : EqlAt P T Value.string (fun x y => decide (x = y)) := ⟨fun x y w => by rw [(EqlAt.string P T).1 x y w]; dsimp only; rw [str_eq], (EqlAt.string P T).2⟩
theorem NeqAt.stringD (P : Program) (T : TypeId) : NeqAt P T Value.string (fun x y => decide (x = y)) := ⟨fun x y w => by rw [(NeqAt.string P T).1 x y w]; dsimp only; rw [str_eq], (NeqAt.string P T).2⟩
/-- Compacted. -/
theorem compact_row {w W : World} {v : Value} {l : List ByteArray} (hR : Kd.R Kd.string 9 W w.heap.size (fun _ => True) v l) (hB : Below w.heap.size w W) (hl : l.length < 1000000000) :
    Calls Tryz.prog 51 #[v] W fun e w' => ∃ v', e = .returned v' ∧ Kd.R Kd.string 9 w' w.heap.size (fun _ => True) v' (Lib.compactUpTo l.toArray l.toArray.size) ∧ Below w.heap.size w w' := by
  have ho := Kd.own_of_R hR
  by_cases hv : v = .slice none 0 0
  · subst hv
    obtain rfl : l = [] := by
      rcases ho.2 with ⟨_, h0⟩ | ⟨g, cap, cur, h1, _⟩
      · exact List.eq_nil_of_length_eq_zero h0
      · cases h1
    have HB := aK hB
    have HR := aK hR
    clear hB hR ho hl
    go_enter Tryz.func51, Tryz.ntmps51
    go_wp2
    go_ret
    exact ⟨_, rfl, HR.out, HB.out⟩
  · obtain ⟨g, cap, rfl, hg, hlt, hn, hm, hll, hH⟩ := Lib.holds_of_ownsRow ho hv
    have hc := Tryz.slices_Compact Value.string (fun _ => rfl) (EqlAt.stringD _ _) (NeqAt.stringD _ _) (⟨#[]⟩ : ByteArray) Tryz.zeroValue9 g 0 cap l.toArray W hH (by simp; omega) (by simpa using hn)
    have hcl : (Lib.compactUpTo l.toArray l.toArray.size).length ≤ l.length := by
      unfold Lib.compactUpTo
      rw [List.length_map]
      refine Nat.le_trans (List.length_filter_le _ _) ?_
      simp
    simp only [List.size_toArray] at hc hcl ⊢
    refine hc.mono ?_
    rintro e w3 ⟨rfl, q, rfl⟩
    have h3 := Lib.ownsRow_putRow (q := q) (k := (Lib.compactUpTo l.toArray l.length).length) (ys := Lib.compactUpTo l.toArray l.length ++ List.replicate (l.length - (Lib.compactUpTo l.toArray l.length).length) (⟨#[]⟩ : ByteArray)) ho (by simp; omega) hcl
    rw [List.take_append_of_le_length (Nat.le_refl _), List.take_length] at h3
    exact ⟨_, rfl, Kd.R_of_own h3 (fun _ _ => trivial), Lib.below_putRow hB hg⟩

/-! ### history_Touched: function 31 (by hand) -/
open Go.Maps Go.Proofs.YtgadbpljlpclnaaGreatDoor.Q
/-- The paths that the commit of a number changes. -/
def pathsH (l : List S28) (x : Int) : List ByteArray := (getR l x).2.2.1.map (·.f0)
def okT (l : List S28) : Bool := l.all fun c => decide (c.f2.length ≤ 1000)
theorem okT_get {l : List S28} (h : okT l = true) (x : Int) : (getR l x).2.2.1.length ≤ 1000 := by
  cases hg : getH l x with
  | none => rw [getR_none hg]; simp
  | some c => rw [getR_some hg]; exact of_decide_eq_true (List.all_eq_true.1 h c (getH_mem hg))
def history_Touched.f (k : Nat) (l0 : List S28) (a1 a2 : Int) : Option (List ByteArray) := (history_Between.f k l0 a1 a2).bind fun ids => if (l0.length ≤ 1000000 ∧ ids.length ≤ 100000) ∧ okT l0 = true then some (uniqS (ids.flatMap (pathsH l0))) else none
theorem history_Touched.mono : ∀ a0 a1 a2 k, LeO (history_Touched.f k a0 a1 a2) (history_Touched.f (k + 1) a0 a1 a2) := by
  intro a0 a1 a2 k
  unfold history_Touched.f
  exact LeO.bind (history_Between.mono _ _ _ _) (fun n => LeO.refl _)
theorem rdX_nat (l : List S53) (i : Nat) (h : i < l.length) : rd_T53 l (i : Int) = l[i] := by
  simp [rd_T53, List.getD_eq_getElem?_getD, List.getElem?_eq_getElem h]
theorem history_Touched.calls (k : Nat) (A0 : Option Addr) (c0 : Nat) (l0 : List (S28)) (a1 : Int) (a2 : Int) (r : List ByteArray) (w : World) (an : Kd.C k28 w A0 l0.length l0) (ao : l0.length ≤ c0) (h : history_Touched.f k l0 a1 a2 = some r) :
    Calls Tryz.prog 31 #[.slice A0 l0.length c0, .int .i64 a1, .int .i64 a2] w fun e w' => ∃ ax : Value, e = .returned (ax) ∧ Kd.R Kd.string 9 w' w.heap.size (fun _ => True) ax r ∧ Below w.heap.size w w' := by
  unfold history_Touched.f at h
  obtain ⟨ids, h1, h2⟩ := Option.bind_eq_some_iff.1 h
  split at h2
  case isFalse => cases h2
  rename_i hh
  obtain rfl := Option.some.inj h2
  have HV := aK (Kd.V_mk (e := 28) (base := w.heap.size) ao (Kd.C_F k28_heap an))
  have HH := aK hh
  have info9 : (Tryz.prog.info? 9).map (fun i => (i.zero, i.size, i.bytes)) = some (some (.string ⟨#[]⟩), 1, 16) := by kernel_rfl
  have HI := aK info9
  have hcl := aK (history_Between.calls k A0 c0 l0 a1 a2 ids w an ao h1)
  clear h h1 h2 hh an ao info9
  go_enter Tryz.func31, Tryz.ntmps31
  go_wp2_with (first
    | (go_at_call 26
       refine hcl.out.mono ?_
       rintro e w1 ⟨v1, rfl, ap, ay⟩
       obtain ⟨Ai, ci, rfl⟩ := Kd.R_slice ap
       have ai := aK ay
       have HC := aK (Kd.R_reads' ap).2.2
       clear hcl ap ay))
  go_loopg [7, 19] ids.length (fun kq v7 aI w' => ∃ (i : Nat) (out : List ByteArray), aI = .int .i64 (i : Int) ∧ Aside0 (i ≤ ids.length ∧ ids.length - i ≤ kq) ∧ Aside0 (out = (ids.take i).flatMap (pathsH l0)) ∧ Aside0 (out.length ≤ i * 1000) ∧ Aside0 (Kd.R Kd.string 9 w' w1.heap.size (fun _ => True) v7 out) ∧ Aside0 (Below w1.heap.size w1 w'))
  case atStart => exact ⟨0, [], rfl, ⟨Nat.zero_le _, by omega⟩, ⟨by simp⟩, ⟨by simp⟩, ⟨Kd.R_nil _ _ _ _ _⟩, ⟨Below.refl _ _⟩⟩
  case round =>
    obtain ⟨i, out, rfl, HK, HE, HL, HO, HB⟩ := hrel
    by_cases hlt : i < ids.length
    · cases gk with
      | zero => exfalso; have := HK.out; omega
      | succ k1 =>
        have c1 : decide ((i : Int) < (ids.length : Int)) = true := decide_eq_true (by omega)
        obtain ⟨ad, e, hx⟩ := int_cell_ HC.out i hlt
        subst e
        replace hx := (HB.out.cell (World.block_lt_of_cell? w1 _ hx)).trans hx
        have p : (0 ≤ (i : Int)) = True := eq_true (by omega)
        have q : ((i : Int) < (ids.length : Int)) = True := eq_true (by omega)
        have aj : (ids.take (i + 1)).flatMap (pathsH l0) = out ++ pathsH l0 ids[i] := by
          rw [HE.out, List.take_add_one, List.getElem?_eq_getElem hlt, List.flatMap_append]
          simp
        generalize ids[i] = x at hx aj
        have hql := okT_get HH.out.2 x
        have hcl := aK (history_Get.calls (l0.length + 1) (fun k => k < w.heap.size) A0 c0 l0 x (getR l0 x).1 (getR l0 x).2.1 (getR l0 x).2.2.1 (getR l0 x).2.2.2.1 (getR l0 x).2.2.2.2.1 (getR l0 x).2.2.2.2.2 wr (Kd.V_below (Kd.V_below HV.out ai.out) HB.out) (get_is l0 x HH.out.1.1))
        rw [pathsH] at aj
        generalize (getR l0 x).1 = q0 at hcl
        generalize (getR l0 x).2.1 = q1 at hcl
        generalize (getR l0 x).2.2.1 = q2 at hcl aj hql
        generalize (getR l0 x).2.2.2.1 = q3 at hcl
        generalize (getR l0 x).2.2.2.2.1 = q4 at hcl
        generalize (getR l0 x).2.2.2.2.2 = q5 at hcl
        have aJ := aK aj
        have HQL := aK hql
        clear aj hql
        go_wp2_with (first
          | (go_at_call 12
             refine hcl.out.mono ?_
             rintro e w3 ⟨v1, v2, rfl, az, aq, ar⟩
             obtain ⟨A1, aR, rfl⟩ := Kd.V_slice az
             obtain ⟨A2, aL, rfl⟩ := Kd.V_slice aq
             have ac := aK (Kd.R_below HO.out ar); have ae := aK (below_then HB.out HB.out.size ar)
             have af := aK (Kd.V_mono aq (ok' := fun k => some k ≠ u7.ownBlock) (fun k hk e => by
               have h7 := Kd.R_base HO.out k e.symm
               have h8 := Kd.R_lt HO.out k e.symm
               have := ai.out.size
               rcases hk with hk | hk <;> omega))
             clear hcl hx az aq ar HO HB
             have HO := ac; have HB := ae; have HQ := af; clear ac ae af))
        go_loopg [7, 32] q2.length (fun kq v7 aM w' => ∃ (j : Nat) (aa : List ByteArray), aM = .int .i64 (j : Int) ∧ Aside0 (j ≤ q2.length ∧ q2.length - j ≤ kq) ∧ Aside0 (aa = out ++ (q2.take j).map (·.f0)) ∧ Aside0 (Kd.R Kd.string 9 w' w1.heap.size (fun _ => True) v7 aa) ∧ Aside0 (Below w1.heap.size w1 w') ∧ Aside0 (Kd.V k53 53 w' wr.heap.size (fun k => some k ≠ v7.ownBlock) (.slice A2 q2.length aL) q2))
        case atStart => exact ⟨0, out, rfl, ⟨Nat.zero_le _, by omega⟩, ⟨by simp⟩, ⟨Kd.R_alloc HO.out _⟩, ⟨HB.out.alloc HB.out.size _⟩, ⟨Kd.V_below HQ.out (below_alloc (Below.refl _ _) _)⟩⟩
        case round =>
          obtain ⟨j, aa, rfl, HJ, am, ag, ab, ah⟩ := hrel
          clear HO HB HQ
          by_cases ak : j < q2.length
          · cases gk with
            | zero => exfalso; have := HJ.out; omega
            | succ k2 =>
              have c2 : decide ((j : Int) < (q2.length : Int)) = true := decide_eq_true (by omega)
              obtain ⟨aS, e2, au, av⟩ := at_T53 (Kd.V_reads' ah.out).2.2 (j : Int) (by omega) (by omega)
              subst e2
              rw [rdX_nat q2 j ak, Int.toNat_natCast] at au av
              have p2 : (0 ≤ (j : Int)) = True := eq_true (by omega)
              have aT : ((j : Int) < (q2.length : Int)) = True := eq_true (by omega)
              have aw : aa ++ [q2[j].f0] = out ++ (q2.take (j + 1)).map (·.f0) := by
                rw [am.out, List.take_add_one, List.getElem?_eq_getElem ak, List.map_append]
                simp
              have HLN := aK (show aa.length ≤ 1000001000 by
                rw [am.out, List.length_append, List.length_map, List.length_take]
                have := HL.out; have := HH.out.1.2; have := HQL.out
                omega)
              generalize q2[j].f0 = s at au aw
              generalize q2[j].f1 = y at av
              have aN := aK aw
              clear aw
              have ac := aK (Kd.R_alloc ag.out (Obj.cells #[Value.string s, .int .i64 y] 53))
              have ae := aK (ab.out.alloc ab.out.size (Obj.cells #[Value.string s, .int .i64 y] 53))
              have af := aK (Kd.V_below ah.out (below_alloc (Below.refl _ _) (Obj.cells #[Value.string s, .int .i64 y] 53)))
              have aA : (wr.alloc (Obj.cells #[Value.string s, .int .i64 y] 53)).cell? ⟨wr.heap.size, 0, none⟩ = some (.string s) := by simp
              generalize aO : wr.alloc (Obj.cells #[Value.string s, .int .i64 y] 53) = W7 at ac ae af aA
              clear ag ab ah
              have ag := ac; have ab := ae; have ah := af; clear ac ae af
              go_wp2_with (first
                | ((with_reducible refine gate_builtin (b := .append) (xs := #[.tmp 36, .tmp 39]) rfl ?_); at_builtin; refine Kd.R_append Kd.string (w0 := w1) w1.heap.size rfl (.tmp 36) (.tmp 39) 44 9 (.string ⟨#[]⟩) 16 rfl Tryz.underlying44 HI.out rfl (by decide) (by omega) _ aa s [.string s] (fun _ => True) (fun _ => False) rfl rfl rfl (fun _ hk => hk.elim) (fun k hk => trivial) ag.out ab.out ab.out.size ?len ?_;
                   (case len => have := HLN.out; omega);
                   intro v4 w9 aB aC aD al
                   have ac := aK aB; have ae := aK aC
                   have af := aK (Kd.V_mono (Kd.V_grown (Kd.V_bound ah.out) aD (fun k hk e => hk.1 e)) (ok' := fun k => some k ≠ v4.ownBlock) (fun k hk => by
                     rcases al with h | ⟨b', h, h2⟩
                     · rw [h]; exact hk.1
                     · rw [h]; intro e; have h9 := Option.some.inj e; have := hk.2; omega))
                   clear aB aC aD al ag ab ah au av aA aO
                   have ag := ac; have ab := ae; have ah := af; clear ac ae af))
              go_roundg k2
              case measure => omega
              case rel => exact ⟨j + 1, aa ++ [s], by rw [w_incV_ j (by have := HQL.out; omega)], ⟨by omega, by have := HJ.out; omega⟩, aN, ag, ab, ah⟩
          · have c2 : decide ((j : Int) < (q2.length : Int)) = false := decide_eq_false (by omega)
            have aP := aK (show aa = (ids.take (i + 1)).flatMap (pathsH l0) by
              rw [aJ.out, am.out, List.take_of_length_le (by omega)])
            have aQ := aK (show aa.length ≤ (i + 1) * 1000 by
              rw [am.out, List.length_append, List.length_map, List.length_take]
              have := HL.out; have := HQL.out
              omega)
            go_wp2
            go_roundg k1
            case measure => omega
            case rel => exact ⟨i + 1, aa, by rw [w_incV_ i (by have := HH.out.1.2; omega)], ⟨by omega, by have := HK.out; omega⟩, aP, aQ, ag, ab⟩
    · have c1 : decide ((i : Int) < (ids.length : Int)) = false := decide_eq_false (by omega)
      have hu : out = ids.flatMap (pathsH l0) := by rw [HE.out, List.take_of_length_le (by omega)]
      have hlen : out.length ≤ 1000000000 - 1 := by have := HL.out; have := HK.out; have := HH.out.1.2; omega
      obtain ⟨A, cA, rfl⟩ := Kd.R_slice HO.out
      have hs := aK (slices_Sort_string_string.sorts (Kd.R_lower HO.out ai.out.size) (below_then ai.out ai.out.size HB.out) (r := sortdS out) (by rw [slices_Sort_string_string.f, if_pos (by omega)]))
      have HU := aK (And.intro hu hlen)
      clear HK HE HL HO HB hu hlen
      go_wp2_with fail
      go_at_call 50
      refine hs.out.mono ?_
      rintro e w2 ⟨rfl, aE, aF⟩
      clear hs
      have hc := aK (compact_row aE aF (by rw [sortdS_len]; have := HU.out.2; omega))
      rw [show Lib.compactUpTo (sortdS out).toArray (sortdS out).toArray.size = uniqS (ids.flatMap (pathsH l0)) by rw [← HU.out.1]; rfl] at hc
      clear aE aF
      go_wp2_with fail
      go_at_call 51
      refine hc.out.mono ?_
      rintro e w3 ⟨v', rfl, aG, aH⟩
      have HO := aK aG
      have HB := aK aH
      clear hc aG aH
      go_wp2
      go_ret
      exact ⟨_, rfl, HO.out, HB.out⟩

/-! ### r26_Tree: function 19 (by hand) -/
open Go.Maps Go.Proofs.YtgadbpljlpclnaaGreatDoor.Q
/-- The place of the first commit of an ID, counted from i. -/
def idxH (x : Int) : List S28 → Nat → Option Nat
  | [], _ => none
  | c :: cs, i => if c.f0 = x then some i else idxH x cs (i + 1)
theorem idxH_step (x : Int) (l : List S28) (i : Nat) (h : i < l.length) : idxH x (l.drop i) i = if l[i].f0 = x then some i else idxH x (l.drop (i + 1)) (i + 1) := by
  rw [List.drop_eq_getElem_cons h, idxH]
def r26_Tree.f : Nat → List S28 → Int → Option (List S55 × Int)
  | 0, _, _ => none
  | k + 1, l, x => if x = 0 then some ([], 0) else match idxH x l 0 with
    | none => some ([], 8)
    | some i => (l[i]?).bind fun c => (match c.f1 with
      | [] => r25_Apply.f k [] c.f2
      | p :: _ => (r26_Tree.f k (l.take i) p).bind fun q => r25_Apply.f k q.1 c.f2).map fun r : List S55 × Int => (r.1, (0 : Int))
def r26_after.f (k : Nat) (l0 : List S28) (ac : Int) (ab : List Int) (aa : List S53) (_a1_3 _a1_4 : Int) : Option (List S55 × Int) :=
  match ab with
  | [] => r25_Apply.f k [] aa
  | p :: _ => (r26_Tree.f k l0 p).bind fun q => r25_Apply.f k q.1 aa
theorem r26_Tree.f_succ (k : Nat) (l : List S28) (x : Int) : r26_Tree.f (k + 1) l x = if x = 0 then some ([], 0) else match idxH x l 0 with
    | none => some ([], 8)
    | some i => (l[i]?).bind fun c => (r26_after.f k (l.take i) c.f0 c.f1 c.f2 c.f3 c.f4).map fun r => (r.1, (0 : Int)) := rfl
theorem r26_Tree.mono_ : ∀ (k : Nat) (l : List S28) (x : Int), LeO (r26_Tree.f k l x) (r26_Tree.f (k + 1) l x)
  | 0, _, _ => fun _ h => by cases h
  | k + 1, l, x => by
    rw [r26_Tree.f_succ (k + 1), r26_Tree.f_succ k]
    refine LeO.ite (LeO.refl _) ?_
    cases idxH x l 0 with
    | none => exact LeO.refl _
    | some i =>
      refine LeO.bind (LeO.refl _) (fun c => ?_)
      intro r h
      obtain ⟨q, h1, h2⟩ := Option.map_eq_some_iff.1 h
      have h3 : r26_after.f (k + 1) (l.take i) c.f0 c.f1 c.f2 c.f3 c.f4 = some q := by
        unfold r26_after.f at h1 ⊢
        split
        · rename_i e; rw [e] at h1; exact r25_Apply.mono _ _ _ _ h1
        · rename_i e; rw [e] at h1; exact LeO.bind (r26_Tree.mono_ k _ _) (fun q => r25_Apply.mono _ _ _) _ h1
      show Option.map _ _ = _
      rw [h3]
      exact congrArg some h2
theorem r26_Tree.mono : ∀ a0 a1 k, LeO (r26_Tree.f k a0 a1) (r26_Tree.f (k + 1) a0 a1) := fun a0 a1 k => r26_Tree.mono_ k a0 a1
theorem r26_after.mono : ∀ a0 a1 a2 a3 a4 a5 k, LeO (r26_after.f k a0 a1 a2 a3 a4 a5) (r26_after.f (k + 1) a0 a1 a2 a3 a4 a5) := by
  intro a0 a1 a2 a3 a4 a5 k r h
  unfold r26_after.f at h ⊢
  split
  · exact r25_Apply.mono _ _ _ _ h
  · exact LeO.bind (r26_Tree.mono_ k _ _) (fun q => r25_Apply.mono _ _ _) _ h
/-- What Tree's walk says, at a measure. -/
def TreeC (k : Nat) : Prop := ∀ (P0_ : Nat → Prop) (A0 : Option Addr) (c0 : Nat) (l0 : List S28) (a1 : Int) (r1 : List S55) (r2 : Int) (w : World) (_hs0 : Kd.V k28 28 w w.heap.size (fun k_ => P0_ k_) (.slice A0 l0.length c0) l0) (_h : r26_Tree.f k l0 a1 = some (r1, r2)),
  Calls Tryz.prog 19 #[.slice A0 l0.length c0, .int .i64 a1] w fun e w' => ∃ v0_ : Value, e = .returned (.tuple #[v0_, .int .i64 r2]) ∧ Kd.V k55 55 w' w.heap.size (fun k_ => (P0_ k_ ∨ w.heap.size ≤ k_)) v0_ r1 ∧ Below w.heap.size w w'
theorem after_calls (k : Nat) (hT : TreeC k) (P0_ : Nat → Prop) (A0 : Option Addr) (c0 : Nat) (l0 : List S28) (a1_0 : Int) (A1_1 : Option Addr) (c1_1 : Nat) (l1_1 : List Int) (A1_2 : Option Addr) (c1_2 : Nat) (l1_2 : List S53) (a1_3 a1_4 : Int) (r1 : List S55) (r2 : Int) (w : World) (hs0 : Kd.V k28 28 w w.heap.size (fun k_ => P0_ k_) (.slice A0 l0.length c0) l0) (hr1_1 : Kd.C (Kd.int .i64) w A1_1 l1_1.length l1_1) (hc1_1 : l1_1.length ≤ c1_1) (hr1_2 : Kd.C k53 w A1_2 l1_2.length l1_2) (hc1_2 : l1_2.length ≤ c1_2) (h : r26_after.f k l0 a1_0 l1_1 l1_2 a1_3 a1_4 = some (r1, r2)) :
    Calls Tryz.prog 39 #[.slice A0 l0.length c0, .agg #[.int .i64 a1_0, .slice A1_1 l1_1.length c1_1, .slice A1_2 l1_2.length c1_2, .int .i64 a1_3, .int .i64 a1_4]] w fun e w' => ∃ v0_ : Value, e = .returned (.tuple #[v0_, .int .i64 r2]) ∧ Kd.V k55 55 w' w.heap.size (fun k_ => (P0_ k_ ∨ w.heap.size ≤ k_)) v0_ r1 ∧ Below w.heap.size w w' := by
  generalize hW1 : w.alloc (Obj.cells #[Value.int .i64 a1_0, .slice A1_1 l1_1.length c1_1, .slice A1_2 l1_2.length c1_2, .int .i64 a1_3, .int .i64 a1_4] 28) = W1
  have hb1 : Below w.heap.size w W1 := by rw [← hW1]; exact below_alloc (Below.refl _ _) _
  have hy1 : W1.cell? ⟨w.heap.size, 1, none⟩ = some (.slice A1_1 l1_1.length c1_1) := by rw [← hW1]; simp
  have hy2 : W1.cell? ⟨w.heap.size, 2, none⟩ = some (.slice A1_2 l1_2.length c1_2) := by rw [← hW1]; simp
  generalize hW2 : W1.alloc (Obj.cells #[] 55) = W2
  have hb2 : Below W1.heap.size W1 W2 := by rw [← hW2]; exact below_alloc (Below.refl _ _) _
  have hbb := below_then hb1 hb1.size hb2
  have hz1 : W2.cell? ⟨w.heap.size, 1, none⟩ = some (.slice A1_1 l1_1.length c1_1) := pw_cell_below hb2 hy1
  have hz2 : W2.cell? ⟨w.heap.size, 2, none⟩ = some (.slice A1_2 l1_2.length c1_2) := pw_cell_below hb2 hy2
  have HV := aK (Kd.V_below hs0 hbb)
  have HP := aK (And.intro (Kd.C_below hr1_1 hbb) (And.intro (Kd.C_below hr1_2 hbb) hc1_2))
  have HY := aK hz2
  have HB := aK hbb
  have HN := aK (Kd.V_mk (d := k55) (e := 55) (W := W2) (base := W2.heap.size) (ok := fun _ => False) (A := some ⟨W1.heap.size, 0, none⟩) (c := 0) (xs := ([] : List S55)) (Nat.le_refl _) (fun W' _ => ⟨rfl, by simp, fun h => absurd h (Nat.lt_irrefl 0)⟩))
  clear hs0 hr1_1 hc1_1 hr1_2 hc1_2 hb1 hb2 hbb hy1 hy2
  unfold r26_after.f at h
  cases l1_1 with
  | nil =>
    have H := aK (show r25_Apply.f k [] l1_2 = some (r1, r2) from h)
    have c1 : decide ((0 : Int) < ((0 : Nat) : Int)) = false := by decide
    have c2 : decide (0 < 0) = false := by decide
    clear h
    rw [List.length_nil] at hW1 hz1
    go_enter Tryz.func39, Tryz.ntmps39
    go_wp2_with fail
    go_at_call 59
    refine (r25_Apply.calls k (fun _ => False) (some ⟨W1.heap.size, 0, none⟩) 0 [] A1_2 c1_2 l1_2 r1 r2 W2 HN.out HP.out.2.1 HP.out.2.2 H.out).mono ?_
    rintro e w4 ⟨v4, rfl, hV4, hb4⟩
    obtain ⟨A4, c4, rfl⟩ := Kd.V_slice hV4
    have HB4 := aK (below_then HB.out HB.out.size hb4)
    have HV4 := aK (Kd.V_mono hV4 (ok' := fun k_ => (P0_ k_ ∨ w.heap.size ≤ k_)) (fun k hk => by
      rcases hk with hk | hk
      · exact hk.elim
      · have := HB.out.size; exact .inr (by omega)))
    clear hV4 hb4 hW1 hW2 hz1 hz2
    go_wp2
    go_ret2
    exact ⟨_, rfl, HV4.out, HB4.out⟩
  | cons p ps =>
    have h' : (r26_Tree.f k l0 p).bind (fun q => r25_Apply.f k q.1 l1_2) = some (r1, r2) := h
    obtain ⟨q, h3, h4⟩ := Option.bind_eq_some_iff.1 h'
    obtain ⟨q1, q2⟩ := q
    have H3 := aK h3
    have H := aK (show r25_Apply.f k q1 l1_2 = some (r1, r2) from h4)
    obtain ⟨ad2, e3, hz⟩ := int_cell_ HP.out.1 0 (by simp)
    subst e3
    have hz0 : W2.cell? ad2 = some (.int .i64 p) := by rw [show ad2 = ad2.add 0 by simp [Addr.add], hz]; rfl
    rw [List.length_cons] at hW1 hz1
    have c1 : decide ((0 : Int) < ((ps.length + 1 : Nat) : Int)) = true := decide_eq_true (by omega)
    have p0 : (0 : Int) < ((ps.length + 1 : Nat) : Int) := by omega
    clear h h' h3 h4 hz
    go_enter Tryz.func39, Tryz.ntmps39
    go_wp2_with fail
    go_at_call 19
    refine (hT (fun k => P0_ k) A0 c0 l0 p q1 q2 W2 HV.out H3.out).mono ?_
    rintro e w3 ⟨v3, rfl, hV3, hb3⟩
    obtain ⟨A3, c3, rfl⟩ := Kd.V_slice hV3
    have hy2 := pw_cell_below hb3 HY.out
    have HB3 := aK (below_then HB.out HB.out.size hb3)
    have HV3 := aK hV3
    have HP3 := aK (Kd.C_below HP.out.2.1 hb3)
    clear hV3 hb3 hW1 hW2 hz1 hz2 hz0
    go_wp2_with fail
    go_at_call 59
    refine (r25_Apply.calls k (fun k => P0_ k ∨ W2.heap.size ≤ k) A3 c3 q1 A1_2 c1_2 l1_2 r1 r2 w3 HV3.out HP3.out HP.out.2.2 H.out).mono ?_
    rintro e w4 ⟨v4, rfl, hV4, hb4⟩
    obtain ⟨A4, c4, rfl⟩ := Kd.V_slice hV4
    have HB4 := aK (below_then HB3.out HB3.out.size hb4)
    have HV4 := aK (Kd.V_mono hV4 (ok' := fun k_ => (P0_ k_ ∨ w.heap.size ≤ k_)) (fun k hk => by
      have := HB.out.size
      have := HB3.out.size
      rcases hk with (hk | hk) | hk
      · exact .inl hk
      · exact .inr (by omega)
      · exact .inr (by omega)))
    clear hV4 hb4 hy2
    go_wp2
    go_ret2
    exact ⟨_, rfl, HV4.out, HB4.out⟩
theorem tree_step (k : Nat) (hT : TreeC k) : TreeC (k + 1) := by
  intro P0_ A0 c0 l0 a1 r1 r2 w hs0 h
  rw [r26_Tree.f_succ] at h
  have HV := aK hs0
  have hmx : l0.length ≤ 9223372036854775807 := Kd.C_max (Kd.V_reads' hs0).2.2
  have HM := aK hmx
  clear hs0 hmx
  by_cases h0 : a1 = 0
  · rw [if_pos h0] at h
    obtain ⟨rfl, rfl⟩ := Prod.mk.inj (Option.some.inj h)
    subst h0
    clear h
    go_enter Tryz.func19, Tryz.ntmps19
    go_wp2
    go_ret2
    exact ⟨_, rfl, Kd.V_nil _ _ _ _ _, Below.refl _ _⟩
  rw [if_neg h0] at h
  have c0f : decide (a1 = 0) = false := decide_eq_false h0
  have c0g : (a1 == 0) = false := by simpa using h0
  have H := aK h
  clear h h0
  go_enter Tryz.func19, Tryz.ntmps19
  go_wp2
  clear c0f c0g
  go_loopg [6] l0.length (fun kq v6 w' => ∃ (i : Nat), v6 = .int .i64 (i : Int) ∧ Aside0 (i ≤ l0.length ∧ l0.length - i ≤ kq) ∧ Aside0 (idxH a1 l0 0 = idxH a1 (l0.drop i) i) ∧ w' = w)
  case atStart => exact ⟨0, rfl, ⟨Nat.zero_le _, by omega⟩, ⟨by rw [List.drop_zero]⟩, rfl⟩
  case round =>
    obtain ⟨i, rfl, HK, HX, rfl⟩ := hrel
    by_cases hlt : i < l0.length
    · cases gk with
      | zero => exfalso; have := HK.out; omega
      | succ k1 =>
        have c1 : decide ((i : Int) < (l0.length : Int)) = true := decide_eq_true (by omega)
        obtain ⟨ad, A1, c1_, A2, c2_, e, hx0, hx1, hx2, hx3, hx4, hl1, hi1, hl2, hi2⟩ := at_T28 (Kd.V_reads' HV.out).2.2 (i : Int) (by omega) (by omega)
        subst e
        rw [rdC_nat l0 i hlt] at hx0 hx1 hx2 hx3 hx4 hl1 hi1 hl2 hi2
        rw [Int.toNat_natCast] at hx0 hx1 hx2 hx3 hx4
        have p : (0 ≤ (i : Int)) = True := eq_true (by omega)
        have q : ((i : Int) < (l0.length : Int)) = True := eq_true (by omega)
        have hX := HX.out
        rw [idxH_step a1 l0 i hlt] at hX
        have hgi : l0[i]? = some l0[i] := List.getElem?_eq_getElem hlt
        generalize l0[i] = c at hx0 hx1 hx2 hx3 hx4 hl1 hi1 hl2 hi2 hX hgi
        by_cases hc : c.f0 = a1
        · rw [if_pos hc] at hX
          subst hc
          have h := H.out
          rw [hX] at h
          simp only [hgi, Option.bind_some] at h
          obtain ⟨qq, h2, h3⟩ := Option.map_eq_some_iff.1 h
          obtain ⟨q1, q2⟩ := qq
          obtain ⟨rfl, rfl⟩ := Prod.mk.inj h3
          have hz : (c.f0 == c.f0) = true := by simp
          have hlen : (l0.take i).length = i := by rw [List.length_take]; omega
          have hs2 : Kd.V k28 28 wr.drew wr.heap.size (fun k_ => P0_ k_) (.slice (some ad) (l0.take i).length c0) (l0.take i) := Kd.V_below (Kd.V_mk (by rw [hlen]; have := (Kd.V_reads' HV.out).2.1; omega) (Kd.F_take (Kd.V_F HV.out) (by omega))) (below_drew (Below.refl _ _))
          have hbd : Below wr.heap.size wr wr.drew := below_drew (Below.refl _ _)
          have hcl0 := after_calls k hT P0_ (some ad) c0 (l0.take i) c.f0 A1 c1_ c.f1 A2 c2_ c.f2 c.f3 c.f4 q1 q2 wr.drew hs2 (Kd.C_below hi1 hbd) hl1 (Kd.C_below hi2 hbd) hl2 h2
          rw [hlen] at hcl0
          have hcl : Aside0 (Calls Tryz.prog 39 #[.slice (some ad) i c0, .agg #[.int .i64 c.f0, .slice A1 c.f1.length c1_, .slice A2 c.f2.length c2_, .int .i64 c.f3, .int .i64 c.f4]] wr.drew fun e w3 => ∃ A4 c4, e = .returned (.tuple #[.slice A4 q1.length c4, .int .i64 q2]) ∧ (w3.cell? (ad.add (i * 5)) = some (.int .i64 c.f0) ∧ w3.cell? ⟨(ad.add (i * 5)).block, (ad.add (i * 5)).off + 1, none⟩ = some (.slice A1 c.f1.length c1_) ∧ w3.cell? ⟨(ad.add (i * 5)).block, (ad.add (i * 5)).off + 2, none⟩ = some (.slice A2 c.f2.length c2_) ∧ w3.cell? ⟨(ad.add (i * 5)).block, (ad.add (i * 5)).off + 3, none⟩ = some (.int .i64 c.f3) ∧ w3.cell? ⟨(ad.add (i * 5)).block, (ad.add (i * 5)).off + 4, none⟩ = some (.int .i64 c.f4)) ∧ Kd.V k55 55 w3 wr.heap.size (fun k_ => (P0_ k_ ∨ wr.heap.size ≤ k_)) (.slice A4 q1.length c4) q1 ∧ Below wr.heap.size wr w3) := ⟨by
            refine hcl0.mono ?_
            rintro e w3 ⟨v4, rfl, hV4, hb4⟩
            obtain ⟨A4, c4, rfl⟩ := Kd.V_slice hV4
            have hb5 := below_then hbd hbd.size hb4
            exact ⟨A4, c4, rfl, ⟨pw_cell_below hb5 hx0, pw_cell_below hb5 hx1, pw_cell_below hb5 hx2, pw_cell_below hb5 hx3, pw_cell_below hb5 hx4⟩, hV4, hb5⟩⟩
          have hcc := (Kd.V_reads' HV.out).2.1
          have s1 : (0 : Int) ≤ (i : Int) := by omega
          have s2 : (i : Int) ≤ (c0 : Int) := by omega
          have s3 : ¬ c0 = 0 := by omega
          have s4 : i ≤ c0 := by omega
          have hd0 : wr.drew.cell? (ad.add (i * 5)) = some (.int .i64 c.f0) := hx0
          have hd1 : wr.drew.cell? ⟨(ad.add (i * 5)).block, (ad.add (i * 5)).off + 1, none⟩ = some (.slice A1 c.f1.length c1_) := hx1
          have hd2 : wr.drew.cell? ⟨(ad.add (i * 5)).block, (ad.add (i * 5)).off + 2, none⟩ = some (.slice A2 c.f2.length c2_) := hx2
          have hd3 : wr.drew.cell? ⟨(ad.add (i * 5)).block, (ad.add (i * 5)).off + 3, none⟩ = some (.int .i64 c.f3) := hx3
          have hd4 : wr.drew.cell? ⟨(ad.add (i * 5)).block, (ad.add (i * 5)).off + 4, none⟩ = some (.int .i64 c.f4) := hx4
          clear hcl0 hcc hs2 h h2 h3 hX hlen hl1 hi1 hl2 hi2 hgi hbd HX
          go_wp2
          go_region_held3 (fun w' => w'.cell? (ad.add (i * 5)) = some (.int .i64 c.f0) ∧ w'.cell? ⟨(ad.add (i * 5)).block, (ad.add (i * 5)).off + 1, none⟩ = some (.slice A1 c.f1.length c1_) ∧ w'.cell? ⟨(ad.add (i * 5)).block, (ad.add (i * 5)).off + 2, none⟩ = some (.slice A2 c.f2.length c2_) ∧ w'.cell? ⟨(ad.add (i * 5)).block, (ad.add (i * 5)).off + 3, none⟩ = some (.int .i64 c.f3) ∧ w'.cell? ⟨(ad.add (i * 5)).block, (ad.add (i * 5)).off + 4, none⟩ = some (.int .i64 c.f4))
            (first
              | exact ⟨by assumption, by assumption, by assumption, by assumption, by assumption⟩
              | exact ⟨by go_keep, by go_keep, by go_keep, by go_keep, by go_keep⟩)
            (first
              | (go_at_call 39
                 refine hcl.out.mono ?_
                 rintro e w3 ⟨A4, c4, rfl, ⟨hy0, hy1, hy2, hy3, hy4⟩, hV4, hB4⟩))
          all_goals (go_wp2; go_ret2; exact ⟨_, rfl, by assumption, by assumption⟩)
        · rw [if_neg hc] at hX
          have hz : (c.f0 == a1) = false := by simpa using hc
          have HX2 := aK hX
          clear hX HX hl1 hi1 hl2 hi2 hgi
          go_wp2
          go_roundg k1
          case measure => omega
          case rel => exact ⟨i + 1, by rw [w_incW_ i (by have := HM.out; omega)], ⟨by omega, by have := HK.out; omega⟩, HX2, rfl⟩
    · have c1 : decide ((i : Int) < (l0.length : Int)) = false := decide_eq_false (by omega)
      have hX := HX.out
      rw [List.drop_of_length_le (by omega), idxH] at hX
      have h := H.out
      rw [hX] at h
      obtain ⟨rfl, rfl⟩ := Prod.mk.inj (Option.some.inj h)
      clear hX h
      go_wp2
      go_ret2
      exact ⟨_, rfl, Kd.V_nil _ _ _ _ _, Below.refl _ _⟩
theorem tree_all : ∀ (k : Nat), TreeC k
  | 0 => fun _ _ _ _ _ _ _ _ _ h => by cases h
  | k + 1 => tree_step k (tree_all k)
theorem r26_Tree.calls (k : Nat) (aa : Nat → Prop) (A0 : Option Addr) (c0 : Nat) (l0 : List S28) (a1 : Int) (r1 : List S55) (r2 : Int) (w : World) (ac : Kd.V k28 28 w w.heap.size (fun k_ => aa k_) (.slice A0 l0.length c0) l0) (h : r26_Tree.f k l0 a1 = some (r1, r2)) :
    Calls Tryz.prog 19 #[.slice A0 l0.length c0, .int .i64 a1] w fun e w' => ∃ ab : Value, e = .returned (.tuple #[ab, .int .i64 r2]) ∧ Kd.V k55 55 w' w.heap.size (fun k_ => (aa k_ ∨ w.heap.size ≤ k_)) ab r1 ∧ Below w.heap.size w w' := tree_all k aa A0 c0 l0 a1 r1 r2 w ac h

/-! ### r26_after: function 39 (by hand) -/
theorem r26_after.calls (k : Nat) (an : Nat → Prop) (A0 : Option Addr) (c0 : Nat) (l0 : List S28) (ac : Int) (ad : Option Addr) (ae : Nat) (aa : List Int) (af : Option Addr) (ag : Nat) (ab : List S53) (ah ai : Int) (r1 : List S55) (r2 : Int) (w : World) (ap : Kd.V k28 28 w w.heap.size (fun k_ => an k_) (.slice A0 l0.length c0) l0) (aj : Kd.C (Kd.int .i64) w ad aa.length aa) (ak : aa.length ≤ ae) (al : Kd.C k53 w af ab.length ab) (am : ab.length ≤ ag) (h : r26_after.f k l0 ac aa ab ah ai = some (r1, r2)) :
    Calls Tryz.prog 39 #[.slice A0 l0.length c0, .agg #[.int .i64 ac, .slice ad aa.length ae, .slice af ab.length ag, .int .i64 ah, .int .i64 ai]] w fun e w' => ∃ ao : Value, e = .returned (.tuple #[ao, .int .i64 r2]) ∧ Kd.V k55 55 w' w.heap.size (fun k_ => (an k_ ∨ w.heap.size ≤ k_)) ao r1 ∧ Below w.heap.size w w' :=
  after_calls k (tree_all k) an A0 c0 l0 ac ad ae aa af ag ab ah ai r1 r2 w ap aj ak al am h

end Go.Proofs.YtgadbpljlpclnaaGreatDoor.H
