import Derived.Test.YtobdkgoapcbipaaGreatDoorJx0
import Derived.Test.YtobdkgoapcbipaaGreatDoorJx1
import Derived.Test.YtobdkgoapcbipaaGreatDoorJx2
import Derived.Test.YtobdkgoapcbipaaGreatDoorJx6
namespace Go.Proofs.YtobdkgoapcbipaaGreatDoor.J
open Go.RowKit Go.Proofs.YtobdkgoapcbipaaGreatDoorW.PrintWords Go.Proofs.YtobdkgoapcbipaaGreatDoorW.PrintLast Go.Proofs.YtobdkgoapcbipaaGreatDoorW.PrintMore
set_option maxHeartbeats 4000000
set_option maxRecDepth 100000
attribute [local go_sem] max2_int min2_int max_two min_two max_three min_three max_four min_four
set_option linter.unusedVariables false
set_option linter.unusedSimpArgs false

/-! ### r05_Same: function 13 -/
def r05_Same.l0 : Nat → List Int → List Int → Int → Option (Bool)
|0,_,_,_ => none
|k + 1,x0,x1,x5 => if x5 < (x0.length : Int) then (if 0 ≤ x5 then (if x5 < (x1.length : Int) then (if (rd x0 x5) = (rd x1 x5) then (r05_Same.l0 k x0 x1 (wrap64 (x5 + 1))) else (some false)) else (none)) else (none)) else (some true)
def r05_Same.f (k : Nat) (l0 : List Int) (l1 : List Int) : Option (Bool) := if (l0.length : Int) = (l1.length : Int) then (r05_Same.l0 k l0 l1 0) else (some false)
theorem r05_Same.mono_l : ∀ k, (∀ y0 y1 y2, LeO (r05_Same.l0 k y0 y1 y2) (r05_Same.l0 (k + 1) y0 y1 y2))
|0 => fun _ _ _ r h => by simp [r05_Same.l0] at h
|k + 1 => by
  have ih0 := r05_Same.mono_l k
  ·intro y0 y1 y2
   unfold r05_Same.l0
   repeat' (with_reducible first|exact ih0 _ _ _|exact LeO.refl _|exact LeO.none _|refine LeO.ite ?_ ?_|refine LeO.bind ?_ (fun _ => ?_))
theorem r05_Same.mono : ∀ a0 a1 k, LeO (r05_Same.f k a0 a1) (r05_Same.f (k + 1) a0 a1) := by
 intro a0 a1 k
 have ih0 := r05_Same.mono_l k
 unfold r05_Same.f
 repeat' (with_reducible first|exact ih0 _ _ _|exact LeO.refl _|exact LeO.none _|refine LeO.ite ?_ ?_|refine LeO.bind ?_ (fun _ => ?_))
theorem r05_Same.calls (k : Nat) (A0 : Option Addr) (c0 : Nat) (l0 : List Int) (A1 : Option Addr) (c1 : Nat) (l1 : List Int) (r : Bool) (w : World) (ar : Kd.C (Kd.int .i64) w A0 l0.length l0) (au : l0.length ≤ c0) (av : Kd.C (Kd.int .i64) w A1 l1.length l1) (aw : l1.length ≤ c1) (h : r05_Same.f k l0 l1 = some r) :
  Calls Tryz.prog 13 #[.slice A0 l0.length c0,.slice A1 l1.length c1] w fun e w' => e = .returned (.bool r) ∧ Drawn0 w w' := by
 have ax := aK ar
 have aC := aK au
 clear ar au
 have ay := aK av
 have aD := aK aw
 clear av aw
 have H : (if (l0.length : Int) = (l1.length : Int) then (r05_Same.l0 k l0 l1 0) else (some false)) = some r := h
 clear h
 by_cases c3 : (l0.length : Int) = (l1.length : Int)
 ·rw [if_pos c3] at H
  have aj := beq_iff_eq.mpr c3
  have ak := bne_eq_false_iff_eq.mpr c3
  have al : (l0.length == l1.length) = true := by first|simpa using c3|(simp at c3 ⊢;omega)
  clear c3
  have H' := aK H
  clear H
  go_enter Tryz.func13,Tryz.ntmps13
  go_wp2
  repeat (go_quiet (fail);try go_wp2)
  go_loopg [5] k (fun kq v5 w' => ∃ (aa : Int),v5 = .int .i64 aa ∧ Aside0 (r05_Same.l0 kq l0 l1 aa = some r) ∧ Aside0 (kq ≤ k) ∧ Drawn0 w w')
  case atStart => exact ⟨(0),(by first|rfl|(simp;done)|(simp [*];done)),H',⟨Nat.le_refl _⟩,by repeat (first|exact Drawn0.refl _|apply Drawn0.step)⟩
  case round =>
   clear H'
   try clear p2
   try clear c3
   try clear aj
   try clear ak
   try clear al
   obtain ⟨aa,rfl,HA,az,⟨m1,rfl⟩⟩ := hrel
   cases gk with
  |zero => exact absurd HA.out (by simp [r05_Same.l0])
  |succ k1 =>
    have H := HA.out
    clear HA
    simp only [r05_Same.l0] at H
    by_cases c4 : aa < (l0.length : Int)
    ·rw [if_pos c4] at H
     have ao := decide_eq_true c4
     clear c4
     obtain ⟨c5,H⟩ := iS H
     have aA := decide_eq_true c5
     clear c5
     obtain ⟨c6,H⟩ := iS H
     have aB := decide_eq_true c6
     clear c6
     by_cases c7 : (rd l0 aa) = (rd l1 aa)
     ·rw [if_pos c7] at H
      have ap := beq_iff_eq.mpr c7
      have aq := bne_eq_false_iff_eq.mpr c7
      clear c7
      have H' := aK H
      clear H
      have ab : 0 ≤ (aa : Int) := dA
      have ac : aa < (l0.length : Int) := dA
      obtain ⟨am,ah,af⟩ := Kd.at_int ax.out aa ab ac
      cases ah
      replace ab := eq_true ab
      replace ac := eq_true ac
      have ad : 0 ≤ (aa : Int) := dA
      have ae : aa < (l1.length : Int) := dA
      obtain ⟨an,ai,ag⟩ := Kd.at_int ay.out aa ad ae
      cases ai
      replace ad := eq_true ad
      replace ae := eq_true ae
      go_wp2
      repeat (go_quiet (fail);try go_wp2)
      go_roundg k1
      case measure => have := az.out;omega
      case rel => exact ⟨(wrap64 (aa + 1)),(by first|rfl|(simp;done)|(simp [*];done)),H',⟨by have := az.out;omega⟩,by repeat (first|exact Drawn0.refl _|apply Drawn0.step)⟩
     ·rw [if_neg c7] at H
      have ap := beq_eq_false_iff_ne.mpr c7
      have aq := bne_iff_ne.mpr c7
      obtain rfl := Option.some.inj H
      have ab : 0 ≤ (aa : Int) := dA
      have ac : aa < (l0.length : Int) := dA
      obtain ⟨am,ah,af⟩ := Kd.at_int ax.out aa ab ac
      cases ah
      replace ab := eq_true ab
      replace ac := eq_true ac
      have ad : 0 ≤ (aa : Int) := dA
      have ae : aa < (l1.length : Int) := dA
      obtain ⟨an,ai,ag⟩ := Kd.at_int ay.out aa ad ae
      cases ai
      replace ad := eq_true ad
      replace ae := eq_true ae
      go_wp2
      repeat (go_quiet (fail);try go_wp2)
      go_ret
      exact ⟨by first|rfl|(simp;done)|(simp [*];done),by repeat (first|exact Drawn0.refl _|apply Drawn0.step)⟩
    ·rw [if_neg c4] at H
     have ao := decide_eq_false c4
     clear c4
     obtain rfl := Option.some.inj H
     go_wp2
     repeat (go_quiet (fail);try go_wp2)
     go_ret
     exact ⟨by first|rfl|(simp;done)|(simp [*];done),by repeat (first|exact Drawn0.refl _|apply Drawn0.step)⟩
 ·rw [if_neg c3] at H
  have aj := beq_eq_false_iff_ne.mpr c3
  have ak := bne_iff_ne.mpr c3
  have al : (l0.length == l1.length) = false := by first|simpa using c3|(simp at c3 ⊢;omega)
  obtain rfl := Option.some.inj H
  go_enter Tryz.func13,Tryz.ntmps13
  go_wp2
  repeat (go_quiet (fail);try go_wp2)
  go_ret
  exact ⟨by first|rfl|(simp;done)|(simp [*];done),by repeat (first|exact Drawn0.refl _|apply Drawn0.step)⟩

/-! ### group_Users: function 14 (by hand) -/
open Go.Maps Go.Proofs.YtobdkgoapcbipaaGreatDoor.Q
theorem compact_row_int {w W : World} {v : Value} {l : List Int} (hR : Kd.R (Kd.int .i64) 3 W w.heap.size (fun _ => True) v l) (hB : Below w.heap.size w W) (hl : l.length < 1000000000) :
    Calls Tryz.prog 44 #[v] W fun e w' => ∃ v', e = .returned v' ∧ Kd.R (Kd.int .i64) 3 w' w.heap.size (fun _ => True) v' (Lib.compactUpTo l.toArray l.toArray.size) ∧ Below w.heap.size w w' := by
  have ho := Kd.own_of_R hR
  by_cases hv : v = .slice none 0 0
  · subst hv
    obtain rfl : l = [] := by
      rcases ho.2 with ⟨_, h0⟩ | ⟨g, cap, cur, h1, _⟩
      · exact List.eq_nil_of_length_eq_zero h0
      · cases h1
    have HB := aK hB
    have HR := aK hR
    clear hB hR ho hl
    go_enter Tryz.func44, Tryz.ntmps44
    go_wp2
    go_ret
    exact ⟨_, rfl, HR.out, HB.out⟩
  · obtain ⟨g, cap, rfl, hg, hlt, hn, hm, hll, hH⟩ := Lib.holds_of_ownsRow ho hv
    have hc := Tryz.slices_Compact (Value.int .i64) (fun _ => rfl) (EqlAt.intD _ _ _) (NeqAt.intD _ _ _) 0 Tryz.zeroValue3 g 0 cap l.toArray W hH (by simp; omega) (by simpa using hn)
    have hcl : (Lib.compactUpTo l.toArray l.toArray.size).length ≤ l.length := by
      unfold Lib.compactUpTo
      rw [List.length_map]
      refine Nat.le_trans (List.length_filter_le _ _) ?_
      simp
    simp only [List.size_toArray] at hc hcl ⊢
    refine hc.mono ?_
    rintro e w3 ⟨rfl, q, rfl⟩
    have h3 := Lib.ownsRow_putRow (q := q) (k := (Lib.compactUpTo l.toArray l.length).length) (ys := Lib.compactUpTo l.toArray l.length ++ List.replicate (l.length - (Lib.compactUpTo l.toArray l.length).length) 0) ho (by simp; omega) hcl
    rw [List.take_append_of_le_length (Nat.le_refl _), List.take_length] at h3
    exact ⟨_, rfl, Kd.R_of_own h3 (fun _ _ => trivial), Lib.below_putRow hB hg⟩
theorem keyOf_str {x : ByteArray} {kl : Lit} (h : keyOf Tryz.prog 9 (.string x) = some kl) : kl = kS x := by
  simp [keyOf, Tryz.underlying9, mapKey] at h
  exact h.2.symm
theorem sameKey_str (s t : ByteArray) : (kS s).sameKey (kS t) = decide (s = t) := by
  by_cases h : s = t
  · subst h; simp [kS, Lit.sameKey]
  · rw [decide_eq_false h]
    exact sameKey_ne (fun e => h (kS_inj e))
theorem grown_cell (w : World) (a : Addr) (u : Value) : w.grownBy (w.setCell a u) (some a.block) := ⟨rfl, rfl, rfl, by simp [World.setCell], fun i _ hi => Below.heap_setCell _ _ _ _ (fun e => hi (by rw [e]))⟩
structure B1 where
  v : Bool
def mkB (c : B1) : Value := .bool c.v
/-- The users of a group of this name. -/
def usersG (l : List S36) (s : ByteArray) : List Int := ((findG l s).map (·.f1)).getD []
theorem findR_users (l : List S36) (s : ByteArray) : (findR l s).2.1 = usersG l s := by
  unfold findR usersG
  cases findG l s <;> rfl
def okUs (l : List S36) : Bool := l.all fun g => decide (g.f1.length ≤ 1000)
theorem okUs_users {l : List S36} (h : okUs l = true) (s : ByteArray) : (usersG l s).length ≤ 1000 := by
  unfold usersG
  cases hf : findG l s with
  | none => simp
  | some g => exact of_decide_eq_true (List.all_eq_true.1 h g (List.mem_of_find?_eq_some hf))
def allUsers (l : List S36) (s : ByteArray) (m : List ByteArray) : List Int := uniq (usersG l s ++ m.flatMap (usersG l))
def group_Users.f (k : Nat) (l0 : List S36) (a1 : ByteArray) : Option (List Int) := (group_contained.f k l0 a1).bind fun m => if (m.length ≤ 1000 ∧ l0.length ≤ 1000000) ∧ okUs l0 = true then some (allUsers l0 a1 m) else none
theorem group_Users.mono : ∀ a0 a1 k, LeO (group_Users.f k a0 a1) (group_Users.f (k + 1) a0 a1) := by
  intro a0 a1 k
  unfold group_Users.f
  exact LeO.bind (group_contained.mono _ _ _) (fun _ => LeO.refl _)
theorem group_Users.calls (k : Nat) (A0 : Option Addr) (c0 : Nat) (l0 : List (S36)) (a1 : ByteArray) (r : List Int) (w : World) (aF : Kd.C k36 w A0 l0.length l0) (av : l0.length ≤ c0) (h : group_Users.f k l0 a1 = some r) :
    Calls Tryz.prog 14 #[.slice A0 l0.length c0, .string a1] w fun e w' => ∃ aY : Value, e = .returned (aY) ∧ Kd.R (Kd.int .i64) 3 w' w.heap.size (fun _ => True) aY r ∧ Below w.heap.size w w' := by
  unfold group_Users.f at h
  obtain ⟨m, h1, h2⟩ := Option.bind_eq_some_iff.1 h
  split at h2
  case isFalse => cases h2
  rename_i hh
  obtain rfl := Option.some.inj h2
  have info3 : (Tryz.prog.info? 3).map (fun i => (i.zero, i.size, i.bytes)) = some (some (.int .i64 0), 1, 8) := by kernel_rfl
  have HI := aK info3
  have HH := aK hh
  have H1 := aK h1
  have aL := aK (Kd.V_mk (e := 36) (base := 0) av (Kd.C_F k36_heap aF))
  have aM := aK (okUs_users hh.2 a1)
  clear h h1 h2 hh aF av info3
  have hcl := aK (group_find.calls (l0.length + 1) (fun k => k < w.heap.size) A0 c0 l0 a1 (findR l0 a1).1 (findR l0 a1).2.1 (findR l0 a1).2.2.1 (findR l0 a1).2.2.2 w aL.out (find_is l0 a1 HH.out.1.2))
  rw [findR_users] at hcl
  generalize hu : usersG l0 a1 = u1 at hcl aM
  generalize (findR l0 a1).1 = q1 at hcl
  generalize (findR l0 a1).2.2.1 = q2 at hcl
  generalize (findR l0 a1).2.2.2 = q4 at hcl
  have HU := aK hu
  clear hu
  go_enter Tryz.func14, Tryz.ntmps14
  go_wp2_with fail
  go_at_call 41
  refine hcl.out.mono ?_
  rintro e w1 ⟨v1, v2, rfl, aN, aZ, hB⟩
  clear hcl
  obtain ⟨A1, c1, rfl⟩ := Kd.V_slice aN
  obtain ⟨A2, c2, rfl⟩ := Kd.V_slice aZ
  have HV := aK aN
  have HB := aK hB
  clear aN aZ hB
  go_wp2_with (first
    | ((with_reducible refine gate_dst (N := 5) rfl ?_); refine box_event ?hg (N := 5) ?hd (cs := #[.string (⟨#[]⟩ : ByteArray), .slice none 0 0, .slice none 0 0]) (t := 36) ?hr ?_; (case hd => rfl); (case hg => rfl); (case hr => first | (go_simp; done) | (go_simp; rfl)); intro gb hg w9 hbox hb
       have ad := aK (Kd.V_below (Kd.V_elderB HV.out gb (Nat.le_of_eq hg.symm)) hb); have ae := aK (below_step HB.out hb); have af := aK hbox; have ag := aK (by rw [hg]; exact HB.out.size : w.heap.size ≤ gb)
       have al : w9.cell? ⟨gb, 0, none⟩ = some (.string (⟨#[]⟩ : ByteArray)) := (blk_cell hbox 0).trans rfl
       have am : w9.cell? ⟨gb, 1, none⟩ = some (.slice none 0 0) := (blk_cell hbox 1).trans rfl
       have an : w9.cell? ⟨gb, 2, none⟩ = some (.slice none 0 0) := (blk_cell hbox 2).trans rfl
       have ao := blk_frozen hbox 0
       have ap := blk_frozen hbox 1
       have aq := blk_frozen hbox 2
       clear HV HB hb hbox hg
       have HV := ad; have HB := ae; have BK := af; have GG := ag; clear ad ae af ag)
    | (go_at_call 42
       have aO := Kd.V_far (p := ⟨gb, 2, none⟩) (Kd.V_far (p := ⟨gb, 1, none⟩) (Kd.V_far (p := ⟨gb, 0, none⟩) HV.out (fun k hk => hk.2) (.string q1)) (fun k hk => hk.2) (.slice A1 u1.length c1)) (fun k hk => hk.2) (.slice A2 q2.length c2)
       have ar := ((HB.out.setCell (p := ⟨gb, 0, none⟩) GG.out (.string q1)).setCell (p := ⟨gb, 1, none⟩) GG.out (.slice A1 u1.length c1)).setCell (p := ⟨gb, 2, none⟩) GG.out (.slice A2 q2.length c2)
       refine (slices_Clone_int_int.calls _ _ u1 u1 _ (Kd.V_reads' aO).2.2 (Kd.V_reads' aO).2.1 (by have := aM.out; simp [slices_Clone_int_int.f]; omega)).mono ?_
       rintro e w3 ⟨v3, rfl, aw, au⟩
       have ad := aK (Kd.R_lower aw ar.size)
       have ae := aK (below_then ar ar.size au)
       clear HV HB aO ar au aw al am an ao ap aq BK
       have HO := ad; have HB := ae; clear ad ae)
    | (go_at_call 34
       refine (group_contained.calls_ k (fun k_ => k_ < w.heap.size) A0 c0 l0 a1 m _ (Kd.V_below aL.out HB.out) H1.out).mono ?_
       rintro e w4 ⟨b, rfl, a0, a2, au⟩
       have ad := aK (Kd.R_below HO.out au)
       have ae := aK (below_then HB.out HB.out.size au)
       have af := aK (show SB Tryz.prog 9 4 w4 b m.length m from a2)
       have ag := aK (show w.heap.size ≤ b from Nat.le_trans HB.out.size a0)
       have ax := aK (show ∀ k, v3.ownBlock = some k → k ≠ b from fun k hk => by have := Kd.R_lt HO.out k hk; omega)
       clear HO HB a0 a2 au
       have HO := ad; have HB := ae; have HM := af; have HBB := ag; have HNE := ax; clear ad ae af ag ax)
    | (at_range
       obtain ⟨D, hD, hRp⟩ := HM.out
       refine wpList_range_own _ rfl _ 51 rfl 9 4 law9 Tryz.underlying51 _ b m.length D rfl hD ?_
       intro w0 ay aP a3))
  have HRG := aK ay
  have HSZ := aK (And.intro a3 (And.intro hD.lt hD.size_le))
  have HR := aK hRp
  have ad := aK (Kd.R_mono (Kd.R_grown (Kd.R_bound HO.out) aP (fun k _ => by simp)) (ok' := fun k => k ≠ w4.heap.size) (fun k hk => Nat.ne_of_lt hk.2.2.1))
  have ae := aK (HB.out.grown aP HB.out.size (fun k hk => by cases hk))
  have HRL := aK (show w.heap.size ≤ w4.heap.size from HB.out.size)
  clear HO HB ay aP a3 hD hRp HM
  have HO := ad; have HB := ae; clear ad ae
  generalize aF : w4.heap.size = rr at HRG HSZ HO HRL ⊢
  clear aF
  go_frame
  go_loopw [7] (fun v7 w2 => ∃ (left : Lit → Bool) (cnt : Nat) (ab : List Int), Aside0 (w2.ranges Tryz.prog 9 (plainElem Tryz.prog 4) b rr m.length D left cnt) ∧ Aside0 (∀ x, x ∈ ab ↔ x ∈ u1 ∨ ∃ s, s ∈ m ∧ left (kS s) = false ∧ x ∈ usersG l0 s) ∧ Aside0 (ab.length + cnt * 1000 ≤ 1001000) ∧ Aside0 (Kd.R (Kd.int .i64) 3 w2 w.heap.size (fun k => k ≠ rr) v7 ab) ∧ Aside0 (∀ k, v7.ownBlock = some k → k ≠ b) ∧ Aside0 (Below w.heap.size w w2))
    (fun _ w2 => w2.rangeLeft b rr)
  case atStart =>
    refine ⟨_, _, u1, HRG, ⟨fun x => ?_⟩, ⟨by have := HSZ.out.2.2; have := aM.out; have := HH.out.1.1; omega⟩, HO, HNE, HB⟩
    constructor
    · exact .inl
    · rintro (h | ⟨s, h1, h2, _⟩)
      · exact h
      · rw [(HR.out s).1, decide_eq_true h1] at h2; cases h2
  case round =>
    obtain ⟨left, cnt, ab, hrg, aQ, aG, aH, aR, aI⟩ := hrel
    go_wp2_with (first
      | (at_next; refine wpList_next_ranges _ rfl _ rfl 9 law9 (plainElem Tryz.prog 4) Value.string mkB (fun key kl h => Maps.keyOf_string_inv Tryz.underlying9 h) (fun v y h => by obtain ⟨c, rfl, _⟩ := plainElem_bool_inv_ Tryz.underlying4 h; exact ⟨⟨c⟩, rfl⟩) b rr m.length D left cnt rfl hrg.out ?_ ?_))
    · intro av a4
      have bh := aK (And.intro av a4)
      clear av a4
      obtain ⟨A7, c7, rfl⟩ := Kd.R_slice aH.out
      have hlen : ab.length ≤ 1001000 := by have := aG.out; omega
      have hu : uniq ab = allUsers l0 a1 m := srt_ext (uniq_srt _) (uniq_srt _) (fun y => by
        rw [mem_uniq, aQ.out y]
        show _ ↔ y ∈ allUsers l0 a1 m
        rw [allUsers, mem_uniq, HU.out, List.mem_append, List.mem_flatMap]
        constructor
        · rintro (h | ⟨s, h1, _, h3⟩)
          · exact .inl h
          · exact .inr ⟨s, h1, h3⟩
        · rintro (h | ⟨s, h1, h3⟩)
          · exact .inl h
          · exact .inr ⟨s, h1, bh.out.2 _, h3⟩)
      have hs := aK (slices_Sort_int_int.sorts (Kd.R_mono aH.out (fun _ _ => trivial)) aI.out (r := sortd ab) (by rw [slices_Sort_int_int.f, if_pos (by omega)]))
      have HUQ := aK (And.intro hu hlen)
      clear aQ aG aH aR aI hrg hu hlen
      go_wp2_with fail
      go_at_call 43
      refine hs.out.mono ?_
      rintro e w2 ⟨rfl, a5, a6⟩
      clear hs
      have hc := aK (compact_row_int a5 a6 (by rw [sortd_len]; have := HUQ.out.2; omega))
      rw [show Lib.compactUpTo (sortd ab).toArray (sortd ab).toArray.size = allUsers l0 a1 m from HUQ.out.1] at hc
      clear a5 a6
      go_wp2_with fail
      go_at_call 44
      refine hc.out.mono ?_
      rintro e w3 ⟨v', rfl, aw, ar⟩
      have HO := aK aw
      have HB := aK ar
      clear hc aw ar
      go_wp2
      go_ret
      exact ⟨_, rfl, HO.out, HB.out⟩
    · skip
      intro x c kl y1 y2 w3 aS hkey hlk hy hat az aA aT bi hen
      obtain rfl := keyOf_str hkey
      have hhas : Maps.has D (kS x) = true := has_true_of_atKey hat
      rw [(HR.out x).1] at hhas
      have HX := aK (And.intro (of_decide_eq_true hhas) (And.intro hlk aA))
      have ac := aK az
      have aj := aK (Kd.R_grown aH.out aT (fun k hk => by simpa using hk))
      have ah := aK (aI.out.grown aT aI.out.size (fun k hk => by cases hk; exact HRL.out))
      have HEQ := aK (hrg.out.left_eq)
      clear hkey hhas hlk aA hat hy az aT bi
      have ai : (usersG l0 x).length ≤ 1000 := okUs_users HH.out.2 x
      have aU := aK (And.intro ai (show ∀ y, y ∈ usersG l0 x ↔ y ∈ usersG l0 x from fun _ => Iff.rfl))
      have hcl := aK (group_find.calls (l0.length + 1) (fun k => k < w.heap.size) A0 c0 l0 x (findR l0 x).1 (findR l0 x).2.1 (findR l0 x).2.2.1 (findR l0 x).2.2.2 w3 (Kd.V_below aL.out ah.out) (find_is l0 x HH.out.1.2))
      rw [findR_users] at hcl
      generalize a7 : usersG l0 x = u3 at hcl aU ai
      have a8 := aK a7
      clear a7
      generalize (findR l0 x).1 = q5 at hcl
      generalize (findR l0 x).2.2.1 = q6 at hcl
      generalize (findR l0 x).2.2.2 = q7 at hcl
      clear ai
      go_wp2_with (first
        | (go_at_call 41
           refine hcl.out.mono ?_
           rintro e w5 ⟨v5, v6, rfl, aV, aB, aJ⟩
           clear hcl
           obtain ⟨A5, c5, rfl⟩ := Kd.V_slice aV
           obtain ⟨A6, c6, rfl⟩ := Kd.V_slice aB
           have ad := aK aV
           have ae := aK (below_then ah.out ah.out.size aJ)
           have af := aK (Kd.R_below aj.out aJ)
           have ag := aK (ac.out.kept (grown_of_below aJ none) (by simp) (by simp))
           clear aV aB aJ ah aj ac
           have aC := ad; have ah := ae; have aj := af; have ac := ag; clear ad ae af ag)
        | ((with_reducible refine gate_dst (N := 9) rfl ?_); refine box_event ?hg (N := 9) ?hd (cs := #[.string (⟨#[]⟩ : ByteArray), .slice none 0 0, .slice none 0 0]) (t := 36) ?hr ?_; (case hd => rfl); (case hg => rfl); (case hr => first | (go_simp; done) | (go_simp; rfl)); intro aa hg w9 hbox hb
           have ad := aK (Kd.V_below (Kd.V_elderB aC.out aa (Nat.le_of_eq hg.symm)) hb); have ae := aK (below_step ah.out hb); have af := aK hbox; have ag := aK (by rw [hg]; exact ah.out.size : w.heap.size ≤ aa)
           have ax := aK (Kd.R_below aj.out hb)
           have a9 := aK (ac.out.kept (grown_of_below hb none) (by simp) (by simp))
           have ba := aK (show aa ≠ b ∧ aa ≠ rr from by rw [hg]; exact ⟨Nat.ne_of_gt ac.out.owns.lt, Nat.ne_of_gt ac.out.lt⟩)
           have bb := aK (show ∀ k, u7.ownBlock = some k → k ≠ aa from fun k hk => by have := Kd.R_lt aj.out k hk; rw [hg]; exact Nat.ne_of_lt this)
           have al : w9.cell? ⟨aa, 0, none⟩ = some (.string (⟨#[]⟩ : ByteArray)) := (blk_cell hbox 0).trans rfl
           have am : w9.cell? ⟨aa, 1, none⟩ = some (.slice none 0 0) := (blk_cell hbox 1).trans rfl
           have an : w9.cell? ⟨aa, 2, none⟩ = some (.slice none 0 0) := (blk_cell hbox 2).trans rfl
           have ao := blk_frozen hbox 0
           have ap := blk_frozen hbox 1
           have aq := blk_frozen hbox 2
           clear aC ah aj ac hb hbox hg
           have aC := ad; have ah := ae; have BK := af; have aW := ag; have aj := ax; have ac := a9; have bc := ba; have bj := bb; clear ad ae af ag ax a9 ba bb)
        | ((with_reducible refine gate_builtin (b := .append) (xs := #[.tmp 34, .tmp 36]) rfl ?_); at_builtin
           have hne : some aa ≠ u7.ownBlock := fun e => bj.out aa e.symm rfl
           have bd := Kd.R_far (p := ⟨aa, 2, none⟩) (Kd.R_far (p := ⟨aa, 1, none⟩) (Kd.R_far (p := ⟨aa, 0, none⟩) (Kd.R_far1 aj.out rfl hne) (fun k hk => hk.2) (.string q5)) (fun k hk => hk.2) (.slice A5 u3.length c5)) (fun k hk => hk.2) (.slice A6 q6.length c6)
           have aB := Kd.V_far (p := ⟨aa, 2, none⟩) (Kd.V_far (p := ⟨aa, 1, none⟩) (Kd.V_far (p := ⟨aa, 0, none⟩) aC.out (fun k hk => hk.2) (.string q5)) (fun k hk => hk.2) (.slice A5 u3.length c5)) (fun k hk => hk.2) (.slice A6 q6.length c6)
           have aX := ((ah.out.setCell (p := ⟨aa, 0, none⟩) aW.out (.string q5)).setCell (p := ⟨aa, 1, none⟩) aW.out (.slice A5 u3.length c5)).setCell (p := ⟨aa, 2, none⟩) aW.out (.slice A6 q6.length c6)
           have hnb : some b ≠ some aa := fun e => bc.out.1 (Option.some.inj e).symm
           have hnr : some rr ≠ some aa := fun e => bc.out.2 (Option.some.inj e).symm
           have ak := ((ac.out.kept (grown_cell _ ⟨aa, 0, none⟩ (.string q5)) hnb hnr).kept (grown_cell _ ⟨aa, 1, none⟩ (.slice A5 u3.length c5)) hnb hnr).kept (grown_cell _ ⟨aa, 2, none⟩ (.slice A6 q6.length c6)) hnb hnr
           refine Kd.R_append_rows (Kd.int .i64) (w0 := w) w.heap.size rfl (.tmp 34) (.tmp 36) 28 3 (.int .i64 0) 8 rfl Tryz.underlying28 HI.out rfl (by decide) (by omega) u7 ab u3 _ _ _ (fun k => k ≠ rr) (fun _ => False) rfl rfl (Kd.R_mono bd (fun k hk => hk.1)) (Kd.V_reads' aB).2.2 (fun _ _ h => h) (fun _ h => h.elim) (fun k hk e => by have := ak.lt; omega) aX aX.size (by have := aG.out; have := aU.out.1; omega) ?_
           intro v8 bo be bf bg aD
           have ad := aK be
           have ae := aK bf
           have af := aK (ak.kept bg (fun e => aR.out b e.symm rfl) (fun e => aj.out.1 rr e.symm rfl))
           have ag := aK (show ∀ k, v8.ownBlock = some k → k ≠ b from fun k hk => by
             rcases aD with h | ⟨b', h, h2⟩
             · exact aR.out k (h.symm.trans hk)
             · obtain rfl : b' = k := Option.some.inj (h.symm.trans hk)
               have := ak.owns.lt; omega)
           clear aC ah aj ac bd aB aX ak be bf bg aD al am an ao ap aq BK hne hnb hnr
           have bk := ad; have bm := ae; have aE := af; have bn := ag; clear ad ae af ag; go_frame))
      refine ⟨⟨_, aS, ab ++ u3, aE, ⟨fun y => ?_⟩, ⟨by have := aG.out; have := HX.out.2.2; have := aU.out.1; rw [List.length_append]; omega⟩, bk, bn, bm⟩, ?_⟩
      · rw [List.mem_append, aQ.out y]
        constructor
        · rintro ((h | ⟨s, h1, h2, h3⟩) | h)
          · exact .inl h
          · exact .inr ⟨s, h1, by rw [h2]; rfl, h3⟩
          · exact .inr ⟨x, HX.out.1, by rw [sameKey_str]; simp, by rw [a8.out]; exact h⟩
        · rintro (h | ⟨s, h1, h2, h3⟩)
          · exact .inl (.inl h)
          · rw [sameKey_str, Bool.and_eq_false_iff] at h2
            rcases h2 with h2 | h2
            · exact .inl (.inr ⟨s, h1, h2, h3⟩)
            · obtain rfl : s = x := by simpa using h2
              exact .inr (by rw [← a8.out]; exact h3)
      · rw [aE.out.left_eq, HEQ.out]
        exact HX.out.2.2

/-! ### r14_SameText: function 16 -/
def r14_SameText.l0 : Nat → List ByteArray → List ByteArray → Int → Option (Bool)
|0,_,_,_ => none
|k + 1,x0,x1,x5 => if x5 < (x0.length : Int) then (if 0 ≤ x5 then (if x5 < (x1.length : Int) then (if (rdOf ByteArray.empty x0 x5).toList = (rdOf ByteArray.empty x1 x5).toList then (r14_SameText.l0 k x0 x1 (wrap64 (x5 + 1))) else (some false)) else (none)) else (none)) else (some true)
def r14_SameText.f (k : Nat) (l0 : List ByteArray) (l1 : List ByteArray) : Option (Bool) := if (l0.length : Int) = (l1.length : Int) then (r14_SameText.l0 k l0 l1 0) else (some false)
theorem r14_SameText.mono_l : ∀ k, (∀ y0 y1 y2, LeO (r14_SameText.l0 k y0 y1 y2) (r14_SameText.l0 (k + 1) y0 y1 y2))
|0 => fun _ _ _ r h => by simp [r14_SameText.l0] at h
|k + 1 => by
  have ih0 := r14_SameText.mono_l k
  ·intro y0 y1 y2
   unfold r14_SameText.l0
   repeat' (with_reducible first|exact ih0 _ _ _|exact LeO.refl _|exact LeO.none _|refine LeO.ite ?_ ?_|refine LeO.bind ?_ (fun _ => ?_))
theorem r14_SameText.mono : ∀ a0 a1 k, LeO (r14_SameText.f k a0 a1) (r14_SameText.f (k + 1) a0 a1) := by
 intro a0 a1 k
 have ih0 := r14_SameText.mono_l k
 unfold r14_SameText.f
 repeat' (with_reducible first|exact ih0 _ _ _|exact LeO.refl _|exact LeO.none _|refine LeO.ite ?_ ?_|refine LeO.bind ?_ (fun _ => ?_))
theorem r14_SameText.calls (k : Nat) (A0 : Option Addr) (c0 : Nat) (l0 : List ByteArray) (A1 : Option Addr) (c1 : Nat) (l1 : List ByteArray) (r : Bool) (w : World) (ar : Kd.C Kd.string w A0 l0.length l0) (au : l0.length ≤ c0) (av : Kd.C Kd.string w A1 l1.length l1) (aw : l1.length ≤ c1) (h : r14_SameText.f k l0 l1 = some r) :
  Calls Tryz.prog 16 #[.slice A0 l0.length c0,.slice A1 l1.length c1] w fun e w' => e = .returned (.bool r) ∧ Drawn0 w w' := by
 have ax := aK ar
 have aC := aK au
 clear ar au
 have ay := aK av
 have aD := aK aw
 clear av aw
 have H : (if (l0.length : Int) = (l1.length : Int) then (r14_SameText.l0 k l0 l1 0) else (some false)) = some r := h
 clear h
 by_cases c3 : (l0.length : Int) = (l1.length : Int)
 ·rw [if_pos c3] at H
  have aj := beq_iff_eq.mpr c3
  have ak := bne_eq_false_iff_eq.mpr c3
  have al : (l0.length == l1.length) = true := by first|simpa using c3|(simp at c3 ⊢;omega)
  clear c3
  have H' := aK H
  clear H
  go_enter Tryz.func16,Tryz.ntmps16
  go_wp2
  repeat (go_quiet (fail);try go_wp2)
  go_loopg [5] k (fun kq v5 w' => ∃ (aa : Int),v5 = .int .i64 aa ∧ Aside0 (r14_SameText.l0 kq l0 l1 aa = some r) ∧ Aside0 (kq ≤ k) ∧ Drawn0 w w')
  case atStart => exact ⟨(0),(by first|rfl|(simp;done)|(simp [*];done)),H',⟨Nat.le_refl _⟩,by repeat (first|exact Drawn0.refl _|apply Drawn0.step)⟩
  case round =>
   clear H'
   try clear p2
   try clear c3
   try clear aj
   try clear ak
   try clear al
   obtain ⟨aa,rfl,HA,az,⟨m1,rfl⟩⟩ := hrel
   cases gk with
  |zero => exact absurd HA.out (by simp [r14_SameText.l0])
  |succ k1 =>
    have H := HA.out
    clear HA
    simp only [r14_SameText.l0] at H
    by_cases c4 : aa < (l0.length : Int)
    ·rw [if_pos c4] at H
     have ao := decide_eq_true c4
     clear c4
     obtain ⟨c5,H⟩ := iS H
     have aA := decide_eq_true c5
     clear c5
     obtain ⟨c6,H⟩ := iS H
     have aB := decide_eq_true c6
     clear c6
     by_cases c7 : (rdOf ByteArray.empty l0 aa).toList = (rdOf ByteArray.empty l1 aa).toList
     ·rw [if_pos c7] at H
      have ap := beq_iff_eq.mpr c7
      have aq := bne_eq_false_iff_eq.mpr c7
      clear c7
      have H' := aK H
      clear H
      have ab : 0 ≤ (aa : Int) := dA
      have ac : aa < (l0.length : Int) := dA
      obtain ⟨am,ah,af⟩ := Kd.at_string ax.out aa ab ac
      cases ah
      replace ab := eq_true ab
      replace ac := eq_true ac
      have ad : 0 ≤ (aa : Int) := dA
      have ae : aa < (l1.length : Int) := dA
      obtain ⟨an,ai,ag⟩ := Kd.at_string ay.out aa ad ae
      cases ai
      replace ad := eq_true ad
      replace ae := eq_true ae
      go_wp2
      repeat (go_quiet (fail);try go_wp2)
      go_roundg k1
      case measure => have := az.out;omega
      case rel => exact ⟨(wrap64 (aa + 1)),(by first|rfl|(simp;done)|(simp [*];done)),H',⟨by have := az.out;omega⟩,by repeat (first|exact Drawn0.refl _|apply Drawn0.step)⟩
     ·rw [if_neg c7] at H
      have ap := beq_eq_false_iff_ne.mpr c7
      have aq := bne_iff_ne.mpr c7
      obtain rfl := Option.some.inj H
      have ab : 0 ≤ (aa : Int) := dA
      have ac : aa < (l0.length : Int) := dA
      obtain ⟨am,ah,af⟩ := Kd.at_string ax.out aa ab ac
      cases ah
      replace ab := eq_true ab
      replace ac := eq_true ac
      have ad : 0 ≤ (aa : Int) := dA
      have ae : aa < (l1.length : Int) := dA
      obtain ⟨an,ai,ag⟩ := Kd.at_string ay.out aa ad ae
      cases ai
      replace ad := eq_true ad
      replace ae := eq_true ae
      go_wp2
      repeat (go_quiet (fail);try go_wp2)
      go_ret
      exact ⟨by first|rfl|(simp;done)|(simp [*];done),by repeat (first|exact Drawn0.refl _|apply Drawn0.step)⟩
    ·rw [if_neg c4] at H
     have ao := decide_eq_false c4
     clear c4
     obtain rfl := Option.some.inj H
     go_wp2
     repeat (go_quiet (fail);try go_wp2)
     go_ret
     exact ⟨by first|rfl|(simp;done)|(simp [*];done),by repeat (first|exact Drawn0.refl _|apply Drawn0.step)⟩
 ·rw [if_neg c3] at H
  have aj := beq_eq_false_iff_ne.mpr c3
  have ak := bne_iff_ne.mpr c3
  have al : (l0.length == l1.length) = false := by first|simpa using c3|(simp at c3 ⊢;omega)
  obtain rfl := Option.some.inj H
  go_enter Tryz.func16,Tryz.ntmps16
  go_wp2
  repeat (go_quiet (fail);try go_wp2)
  go_ret
  exact ⟨by first|rfl|(simp;done)|(simp [*];done),by repeat (first|exact Drawn0.refl _|apply Drawn0.step)⟩

/-! ### group_In: function 19 -/
def group_In.f (k : Nat) (l0 : List (S36)) (a1 : ByteArray) (a2 : Int) : Option (Bool) := (group_Users.f k l0 a1).bind fun aa => ((slices_Contains_int_int.f k aa a2).bind fun ab => (some ab))
theorem group_In.mono : ∀ a0 a1 a2 k, LeO (group_In.f k a0 a1 a2) (group_In.f (k + 1) a0 a1 a2) := by
 intro a0 a1 a2 k
 unfold group_In.f
 repeat' (with_reducible first|exact group_Users.mono _ _ _|exact slices_Contains_int_int.mono _ _ _|exact LeO.refl _|exact LeO.none _|refine LeO.ite ?_ ?_|refine LeO.bind ?_ (fun _ => ?_))
theorem group_In.calls (k : Nat) (A0 : Option Addr) (c0 : Nat) (l0 : List (S36)) (a1 : ByteArray) (a2 : Int) (r : Bool) (w : World) (af : Kd.C k36 w A0 l0.length l0) (ag : l0.length ≤ c0) (h : group_In.f k l0 a1 a2 = some r) :
  Calls Tryz.prog 19 #[.slice A0 l0.length c0,.string a1,.int .i64 a2] w fun e w' => e = .returned (.bool r) ∧ Below w.heap.size w w' := by
 have ak := aK af
 have al := aK ag
 clear af ag
 have HB := aK (Below.refl w.heap.size w)
 have H : ((group_Users.f k l0 a1).bind fun aa => ((slices_Contains_int_int.f k aa a2).bind fun ae => (some ae))) = some r := h
 clear h
 replace H := Option.bind_eq_some_iff.mp H
 obtain ⟨aa,ah,H⟩ := H
 have A4 := aK ah
 clear ah
 replace H := Option.bind_eq_some_iff.mp H
 obtain ⟨ae,ai,H⟩ := H
 have A5 := aK ai
 clear ai
 obtain rfl := Option.some.inj H
 go_enter Tryz.func19,Tryz.ntmps19
 go_wp2_with (first|((with_reducible refine gate_callee (f := 14) rfl ?_);refine gL 9 Tryz.func14 #[.slice A0 l0.length c0,.string a1] ?_;(with_reducible refine (group_Users.calls k _ _ l0 a1 aa _ ?ab ?ac A4.out).mono ?_);(case ab => exact cM ak.out);(case ac => exact al.out);rintro e w6 ⟨am,rfl,aj,hb⟩;refine ⟨_,rfl,?_⟩;have ad := aK (Kd.R_lower aj (below_size (bM HB.out)));replace HB := aK (below_step (bM HB.out) hb);(try clear hb);(try clear aj);obtain ⟨an,ao,ap⟩ := Kd.R_slice ad.out;subst ap)|((with_reducible refine gate_callee (f := 47) rfl ?_);refine gL 11 Tryz.func47 #[.slice an aa.length ao,.int .i64 a2] ?_;(with_reducible refine (slices_Contains_int_int.calls k _ _ aa a2 ae _ ?ab ?ac A5.out).mono ?_);(case ab => exact cM (Kd.R_reads' ad.out).2.2);(case ac => exact (Kd.R_reads' ad.out).2.1);rintro e w' ⟨rfl,⟨nd,rfl⟩⟩;refine ⟨_,rfl,?_⟩))
 go_ret
 exact ⟨by first|rfl|(simp [errW_none,errW_some] <;> rfl)|(simp [*,errW_none,errW_some] <;> rfl),bM HB.out⟩

/-! ### slices_Sort_string_string: function 45 (by hand) -/
open Go.Sort Go.Shelf
theorem below_sortedS {B : Nat} {w0 w : World} {g n : Nat} {d : Array (List UInt8)} {os : Array Obj} (h : Below B w0 w) (hg : B ≤ g) (hB : B ≤ w.heap.size) : Below B w0 (grow (putRow encStr (Sort.ahead w n) g 0 d) os) :=
  (Lib.below_putRow (enc := encStr) (q := n) (d := d) h hg).trans (Lib.below_grow B _ (by rw [size_putRow]; exact hB) 0 os)
theorem encStr_ofB (l : List (List UInt8)) : (l.map ofB).map Value.string = l.map encStr := by
  rw [List.map_map]; rfl
theorem own_sortedS {w : World} {base e g n cap q : Nat} {zs ys : List (List UInt8)} {os : Array Obj} (h : w.ownsRow base e 1 (.slice (some ⟨g, 0, none⟩) n cap) n (zs.map encStr)) (hy : ys.length = n) :
    (grow (putRow encStr (Sort.ahead w q) g 0 ys.toArray) os).ownsRow base e 1 (.slice (some ⟨g, 0, none⟩) n cap) n (ys.map encStr) := by
  have h1 := Lib.ownsRow_putRow (q := q) (k := n) h hy (Nat.le_refl _)
  rw [List.take_of_length_le (by omega)] at h1
  exact Lib.ownsRow_grow h1 0 os
def slices_Sort_string_string.f (l0 : List ByteArray) : Option (List ByteArray) := if l0.length < 4611686018427387904 then some (sortdS l0) else none
/-- A row of the call's own, sorted in its place. -/
theorem slices_Sort_string_string.sorts {w W : World} {v : Value} {l r : List ByteArray} (hR : Kd.R Kd.string 9 W w.heap.size (fun _ => True) v l) (hB : Below w.heap.size w W) (hl : slices_Sort_string_string.f l = some r) :
    Calls Tryz.prog 45 #[v] W fun e w' => e = .returned (.tuple #[]) ∧ Kd.R Kd.string 9 w' w.heap.size (fun _ => True) v r ∧ Below w.heap.size w w' := by
  unfold slices_Sort_string_string.f at hl
  split at hl
  case isFalse => cases hl
  rename_i hl0
  obtain rfl := Option.some.inj hl
  have ho := Kd.own_of_R hR
  by_cases hv : v = .slice none 0 0
  · subst hv
    obtain rfl : l = [] := by
      rcases ho.2 with ⟨_, h0⟩ | ⟨g, cap, cur, h1, _⟩
      · exact List.eq_nil_of_length_eq_zero h0
      · cases h1
    refine (Tryz.slices_Sort_string_none none 0 W).mono ?_
    rintro e w2 ⟨rfl, rfl⟩
    have e1 : sortdS ([] : List ByteArray) = [] := List.eq_nil_of_length_eq_zero (by have := sortdS_len []; simpa using this)
    rw [e1]
    exact ⟨rfl, hR, hB⟩
  · have ho' : W.ownsRow w.heap.size 9 1 v l.length ((l.map bl).map encStr) := by
      have e : (l.map bl).map encStr = l.map Value.string := by rw [List.map_map]; rfl
      rw [e]; exact ho
    obtain ⟨g, cap, rfl, hg, hlt, hn, hm, hll, hH⟩ := Lib.holds_of_ownsRow ho' hv
    have hs := Tryz.slices_Sort_string g 0 cap (l.map bl) W hH hlt (by rw [List.length_map]; omega)
    rw [List.length_map] at hs
    refine hs.mono ?_
    rintro e w2 ⟨rfl, n, os, rfl⟩
    have ho2 := own_sortedS (q := n) (os := os) ho' (ys := (l.map bl).mergeSort fun x y => decide (x ≤ y)) (by rw [List.length_mergeSort, List.length_map])
    have hB2 := below_sortedS (n := n) (d := ((l.map bl).mergeSort fun x y => decide (x ≤ y)).toArray) (os := os) hB hg (by omega)
    refine ⟨rfl, Kd.R_of_own ?_ (fun _ _ => trivial), hB2⟩
    rw [sortdS_len]
    show World.ownsRow _ _ _ _ _ _ ((sortdS l).map Value.string)
    rw [sortdS, encStr_ofB]
    exact ho2

/-! ### group_Of: function 17 -/
def group_Of.l0 : Nat → List (S36) → Int → List ByteArray → List (S36) → Int → Int → Option (List ByteArray)
|0,_,_,_,_,_,_ => none
|k + 1,x0,x1,x5,x8,x9,aa => if aa < x9 then (if 0 ≤ aa then (if aa < (x8.length : Int) then ((group_In.f k x0 ((rd_T36 x8 aa).f0) x1).bind fun ab => (if ab = true then (if x5.length < 8796093022208 then (group_Of.l0 k x0 x1 (x5 ++ [(rd_T36 x8 aa).f0]) x8 x9 (wrap64 (aa + 1))) else (none)) else (group_Of.l0 k x0 x1 x5 x8 x9 (wrap64 (aa + 1))))) else (none)) else (none)) else ((slices_Sort_string_string.f x5).bind fun ac => (some ac))
def group_Of.f (k : Nat) (l0 : List (S36)) (a1 : Int) : Option (List ByteArray) := group_Of.l0 k l0 a1 ([] : List ByteArray) l0 (l0.length : Int) 0
theorem group_Of.mono_l : ∀ k, (∀ y0 y1 y2 y3 y4 y5, LeO (group_Of.l0 k y0 y1 y2 y3 y4 y5) (group_Of.l0 (k + 1) y0 y1 y2 y3 y4 y5))
|0 => fun _ _ _ _ _ _ r h => by simp [group_Of.l0] at h
|k + 1 => by
  have ih0 := group_Of.mono_l k
  ·intro y0 y1 y2 y3 y4 y5
   unfold group_Of.l0
   repeat' (with_reducible first|exact ih0 _ _ _ _ _ _|exact group_In.mono _ _ _ _|exact LeO.refl _|exact LeO.none _|refine LeO.ite ?_ ?_|refine LeO.bind ?_ (fun _ => ?_))
theorem group_Of.mono : ∀ a0 a1 k, LeO (group_Of.f k a0 a1) (group_Of.f (k + 1) a0 a1) := by
 intro a0 a1 k
 have ih0 := group_Of.mono_l k
 unfold group_Of.f
 repeat' (with_reducible first|exact ih0 _ _ _ _ _ _|exact group_In.mono _ _ _ _|exact LeO.refl _|exact LeO.none _|refine LeO.ite ?_ ?_|refine LeO.bind ?_ (fun _ => ?_))
theorem group_Of.calls (k : Nat) (A0 : Option Addr) (c0 : Nat) (l0 : List (S36)) (a1 : Int) (r : List ByteArray) (w : World) (a4 : Kd.C k36 w A0 l0.length l0) (a5 : l0.length ≤ c0) (h : group_Of.f k l0 a1 = some r) :
  Calls Tryz.prog 17 #[.slice A0 l0.length c0,.int .i64 a1] w fun e w' => ∃ a6 : Value,e = .returned (a6) ∧ Kd.R Kd.string 9 w' w.heap.size (fun _ => True) a6 r ∧ Below w.heap.size w w' := by
 have a9 := Tryz.underlying36
 have aT := aK a4
 have a7 := aK a5
 clear a4 a5
 have HB := aK (Below.refl w.heap.size w)
 have H : (group_Of.l0 k l0 a1 ([] : List ByteArray) l0 (l0.length : Int) 0) = some r := h
 clear h
 have H' := aK H
 clear H
 go_enter Tryz.func17,Tryz.ntmps17
 go_wp2
 go_loopg [5,10] k (fun kq v5 ba w' => ∃ (ap : List ByteArray) (aa : Int),ba = .int .i64 aa ∧ Aside0 (group_Of.l0 kq l0 a1 ap l0 (l0.length : Int) aa = some r) ∧ Aside0 (kq ≤ k) ∧ Aside0 (Kd.R Kd.string 9 w' w.heap.size (fun _ => True) v5 ap) ∧ Aside0 (Below w.heap.size w w'))
 case atStart => exact ⟨(([] : List ByteArray)),(0),(by first|rfl|(simp;done)|(simp [*];done)),H',⟨Nat.le_refl _⟩,⟨by first|exact Kd.R_nil _ _ _ _ _|exact Kd.N_nil _ _ _ _ _|exact Kd.V_nil _ _ _ _ _|exact Kd.Q_nil _ _ _ _ _|exact Kd.S_nil _ _ _ _ _⟩,⟨bM HB.out⟩⟩
 case round =>
  clear H'
  try clear p2
  obtain ⟨ap,aa,rfl,HA,aU,ak,HB⟩ := hrel
  cases gk with
 |zero => exact absurd HA.out (by simp [group_Of.l0])
 |succ k1 =>
   have H := HA.out
   clear HA
   simp only [group_Of.l0] at H
   by_cases c3 : aa < (l0.length : Int)
   ·rw [if_pos c3] at H
    have aV := decide_eq_true c3
    clear c3
    obtain ⟨c4,H⟩ := iS H
    have bb := decide_eq_true c4
    clear c4
    obtain ⟨c5,H⟩ := iS H
    have bc := decide_eq_true c5
    clear c5
    replace H := Option.bind_eq_some_iff.mp H
    obtain ⟨aW,a8,H⟩ := H
    have A6 := aK a8
    clear a8
    by_cases c7 : aW = true
    ·subst c7
     rw [if_pos rfl] at H
     obtain ⟨c8,H⟩ := iS H
     have aX := aK c8
     clear c8
     obtain ⟨aH,aq⟩ : ∃ y_ : List ByteArray,y_ = (ap ++ [(rd_T36 l0 aa).f0]) := ⟨_,rfl⟩
     replace H : (group_Of.l0 k1 l0 a1 aH l0 (l0.length : Int) (wrap64 (aa + 1))) = some r := by first|(rw [aq];with_reducible exact H)|(have aY := (Option.bind_some _ _).symm.trans H;rw [aq];with_reducible exact aY)|(have aY := (Option.bind_some _ _).symm.trans H;with_reducible exact aY)|with_reducible exact H|(rw [aq];exact H)|exact H
     have aI := aK aq
     clear aq
     have H' := aK H
     clear H
     have ar : 0 ≤ (aa : Int) := dA
     have au : aa < (l0.length : Int) := dA
     obtain ⟨av,al,am,an,ao,aG,ad,ae,af,ag,ah,ai,aj⟩ := at_T36 aT.out aa ar au
     cases aG
     replace ad := xM HB ad
     replace ae := xM HB ae
     replace af := xM HB af
     have aA := aK ah
     have aC := aK ag
     clear ah ag
     have aD := aK aj
     have aE := aK ai
     clear aj ai
     replace ar := eq_true ar
     replace au := eq_true au
     go_wp2_with (first|((with_reducible refine gate_dst (N := 7) rfl ?_);refine box_event ?hg (N := 7) ?hd (cs := #[.string (⟨#[]⟩ : ByteArray),.slice none 0 0,.slice none 0 0]) (t := 36) ?hr ?_;(case hd => rfl);(case hg => rfl);(case hr => first|(go_simp;done)|(go_simp;rfl));intro ab hg w9 hbox hb;replace ak := aK (Kd.R_below (rM ak.out) hb);have ac := aK (hbox);have aw := aK ((by rw [hg];exact (below_size (bM HB.out)) : w.heap.size ≤ ab));have aJ := Ge.mk aw.out;have ax := aK ((by rw [hg];exact (below_size (bM HB.out)) : w.heap.size ≤ ab));have aM := Ge.mk ax.out;replace HB := aK (below_step (bM HB.out) hb);clear hb hbox hg;obtain ⟨_,_,_,_,_,_⟩ := bk3_ ac.out)|((with_reducible refine gate_callee (f := 19) rfl ?_);refine gL 18 Tryz.func19 #[.slice (some av) l0.length c0,.string ((rd_T36 l0 aa).f0),.int .i64 a1] ?_;(with_reducible refine (group_In.calls k1 _ _ l0 ((rd_T36 l0 aa).f0) a1 true _ ?ay ?az A6.out).mono ?_);(case ay => exact Kd.C_below aT.out (bG HB.out));(case az => exact a7.out);rintro e bg ⟨rfl,hb⟩;refine ⟨_,rfl,?_⟩;replace ak := aK (Kd.R_below (by (with_reducible repeat (first|apply Kd.R_alloc|apply Kd.R_drewN|apply Kd.R_drew));exact (Kd.R_mono (Kd.R_far (p := ⟨ab,2,none⟩) (Kd.R_far (p := ⟨ab,1,none⟩) (Kd.R_far (p := ⟨ab,0,none⟩) (Kd.R_types ak.out ac.out (by decide)) (fun _ hk => hk.2) (.string ((rd_T36 l0 aa).f0))) (fun _ hk => hk.2) (.slice al ((rd_T36 l0 aa).f1).length am)) (fun _ hk => hk.2) (.slice an ((rd_T36 l0 aa).f2).length ao)) (fun _ h_ => h_.1))) hb);replace ac := aK (blk_below (g := ab) (o := .cells #[.string ((rd_T36 l0 aa).f0),.slice al ((rd_T36 l0 aa).f1).length am,.slice an ((rd_T36 l0 aa).f2).length ao] 36 (0,0)) (by refine kO ?_;refine blk_put (cs := #[.string ((rd_T36 l0 aa).f0),.slice al ((rd_T36 l0 aa).f1).length am,.slice none 0 0]) ?_ 2 _ rfl;refine kO ?_;refine blk_put (cs := #[.string ((rd_T36 l0 aa).f0),.slice none 0 0,.slice none 0 0]) ?_ 1 _ rfl;refine kO ?_;refine blk_put (cs := #[.string (⟨#[]⟩ : ByteArray),.slice none 0 0,.slice none 0 0]) ?_ 0 _ rfl;refine kO ?_;exact ac.out) hb);replace HB := aK (below_step (bG HB.out) hb);(try clear hb);(try clear hk);obtain ⟨_,_,_,_,_,_⟩ := bk3_ ac.out)|((with_reducible refine gate_builtin (b := .append) (xs := #[.tmp 19,.tmp 22]) rfl ?_);at_builtin;refine Kd.R_append Kd.string (w0 := w) w.heap.size rfl (.tmp 19) (.tmp 22) 31 9 (.string ⟨#[]⟩) 16 rfl Tryz.underlying31 info9 rfl (by decide) (by omega) u5 ap ((rd_T36 l0 aa).f0) [.string ((rd_T36 l0 aa).f0)] (fun _ => True) (fun _ => False) rfl rfl ?aP (fun _ hk => hk.elim) ?aF ?aO ?aB ?aS ?aL ?_;(case aP => exact rfl);(case aB => exact (bG HB.out));(case aF => exact (fun _ _ => trivial));(case aO => exact (rM ak.out));(case aS => exact (below_size (bG HB.out)));(case aL => have := aX.out;omega);intro bd bh ho hb hg hat;rw [← aI.out] at ho;replace ac := aK (blk_grown (g := ab) (o := .cells #[.string ((rd_T36 l0 aa).f0),.slice al ((rd_T36 l0 aa).f1).length am,.slice an ((rd_T36 l0 aa).f2).length ao] 36 (0,0)) (kM ac.out) hg (Kd.R_ne ak.out ac.out (by decide)));replace HB := aK (hb);have aN := aK (ho);clear ho hb hg hat))
     go_roundg k1
     case measure => have := aU.out;omega
     case rel => exact ⟨(aH),(wrap64 (aa + 1)),(by first|rfl|(simp;done)|(simp [*];done)),H',⟨by have := aU.out;omega⟩,⟨rM aN.out⟩,⟨bG HB.out⟩⟩
    ·replace c7 := Bool.eq_false_iff.mpr c7
     subst c7
     rw [if_neg (show ¬ (false = true) by decide)] at H
     have H' := aK H
     clear H
     have ar : 0 ≤ (aa : Int) := dA
     have au : aa < (l0.length : Int) := dA
     obtain ⟨av,al,am,an,ao,aG,ad,ae,af,ag,ah,ai,aj⟩ := at_T36 aT.out aa ar au
     cases aG
     replace ad := xM HB ad
     replace ae := xM HB ae
     replace af := xM HB af
     have aA := aK ah
     have aC := aK ag
     clear ah ag
     have aD := aK aj
     have aE := aK ai
     clear aj ai
     replace ar := eq_true ar
     replace au := eq_true au
     go_wp2_with (first|((with_reducible refine gate_dst (N := 7) rfl ?_);refine box_event ?hg (N := 7) ?hd (cs := #[.string (⟨#[]⟩ : ByteArray),.slice none 0 0,.slice none 0 0]) (t := 36) ?hr ?_;(case hd => rfl);(case hg => rfl);(case hr => first|(go_simp;done)|(go_simp;rfl));intro ab hg bi hbox hb;replace ak := aK (Kd.R_below (rM ak.out) hb);have ac := aK (hbox);have aw := aK ((by rw [hg];exact (below_size (bM HB.out)) : w.heap.size ≤ ab));have aJ := Ge.mk aw.out;have ax := aK ((by rw [hg];exact (below_size (bM HB.out)) : w.heap.size ≤ ab));have aM := Ge.mk ax.out;replace HB := aK (below_step (bM HB.out) hb);clear hb hbox hg;obtain ⟨_,_,_,_,_,_⟩ := bk3_ ac.out)|((with_reducible refine gate_callee (f := 19) rfl ?_);refine gL 18 Tryz.func19 #[.slice (some av) l0.length c0,.string ((rd_T36 l0 aa).f0),.int .i64 a1] ?_;(with_reducible refine (group_In.calls k1 _ _ l0 ((rd_T36 l0 aa).f0) a1 false _ ?ay ?az A6.out).mono ?_);(case ay => exact Kd.C_below aT.out (bG HB.out));(case az => exact a7.out);rintro e bj ⟨rfl,hb⟩;refine ⟨_,rfl,?_⟩;replace ak := aK (Kd.R_below (by (with_reducible repeat (first|apply Kd.R_alloc|apply Kd.R_drewN|apply Kd.R_drew));exact (Kd.R_mono (Kd.R_far (p := ⟨ab,2,none⟩) (Kd.R_far (p := ⟨ab,1,none⟩) (Kd.R_far (p := ⟨ab,0,none⟩) (Kd.R_types ak.out ac.out (by decide)) (fun _ hk => hk.2) (.string ((rd_T36 l0 aa).f0))) (fun _ hk => hk.2) (.slice al ((rd_T36 l0 aa).f1).length am)) (fun _ hk => hk.2) (.slice an ((rd_T36 l0 aa).f2).length ao)) (fun _ h_ => h_.1))) hb);replace HB := aK (below_step (bG HB.out) hb);(try clear hb);(try clear hk)))
     go_roundg k1
     case measure => have := aU.out;omega
     case rel => exact ⟨(ap),(wrap64 (aa + 1)),(by first|rfl|(simp;done)|(simp [*];done)),H',⟨by have := aU.out;omega⟩,⟨rM ak.out⟩,⟨bG HB.out⟩⟩
   ·rw [if_neg c3] at H
    have aV := decide_eq_false c3
    clear c3
    replace H := Option.bind_eq_some_iff.mp H
    obtain ⟨be,aQ,H⟩ := H
    have bf := aK aQ
    clear aQ
    obtain rfl := Option.some.inj H
    obtain ⟨aZ,a0,a2⟩ := Kd.R_slice ak.out
    subst a2
    go_wp2_with (first|((with_reducible refine gate_callee (f := 45) rfl ?_);refine gL 26 Tryz.func45 #[.slice aZ ap.length a0] ?_;refine (slices_Sort_string_string.sorts ak.out HB.out bf.out).mono ?_;rintro e bk ⟨rfl,a3,hb⟩;refine ⟨_,rfl,?_⟩;generalize Value.slice _ (List.length ap) _ = v219 at a3 ⊢;have aR := aK a3;replace HB := aK hb;clear a3 hb))
    go_ret
    exact ⟨_,by first|rfl|(simp [errW_none,errW_some] <;> rfl)|(simp [*,errW_none,errW_some] <;> rfl),rM (Kd.R_mono aR.out (fun _ hk => trivial)),bM HB.out⟩

-- NOT PRINTED: function 50 (api_Group_50)

end Go.Proofs.YtobdkgoapcbipaaGreatDoor.J
