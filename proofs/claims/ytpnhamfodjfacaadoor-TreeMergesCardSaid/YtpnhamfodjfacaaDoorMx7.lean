-- Written by hp.py, a program of this session, over the kit's print of the translation. Not trusted: Lean checks it.
import Derived.Test.YtpnhamfodjfacaaDoorMx0
import Derived.Test.YtpnhamfodjfacaaDoorMx1
import Derived.Test.YtpnhamfodjfacaaDoorMx2
import Derived.Test.YtpnhamfodjfacaaDoorMx5
import Derived.Test.YtpnhamfodjfacaaDoorMx6
namespace Go.Proofs.YtpnhamfodjfacaaDoor.M
open Go.RowKit Go.Proofs.YtpnhamfodjfacaaDoorW.PrintWords Go.Proofs.YtpnhamfodjfacaaDoorW.PrintLast Go.Proofs.YtpnhamfodjfacaaDoorW.PrintMore
attribute [local go_sem] max2_int min2_int max_two min_two max_three min_three max_four min_four   -- for this text's walks alone
set_option linter.unusedVariables false
set_option linter.unusedSimpArgs false

attribute [local go_sem high] eqA45 eqA47
/-! ### tree_Apply: function 16 (by hand) -/
open Go.Maps
def applyM : MP → List S47 → Option MP
  | m, [] => some m
  | m, c :: cs => if c.f1 = 0 then (if (mget m c.f0).isSome = true then applyM (mdel m c.f0) cs else none) else applyM (mput m c.f0 c.f1) cs
def okCs (l : List S47) : Bool := l.all fun x => okS x.f0 && okI x.f1
def tree_Apply.f (k : Nat) (l0 : List S45) (l1 : List S47) : Option (List S45 × Int) := (tree_Right.f k l0).bind fun e => (if e = 0 then (if (l1.length : Int) > 16 then (some (([] : List S45), 4)) else (if okFs l0 = true ∧ okCs l1 = true ∧ l0.length ≤ 100000 then (if (applyM (contsM l0) l1).isNone = true then (some (([] : List S45), 8)) else ((tree_Right.f k (filesM ((applyM (contsM l0) l1).getD []))).bind fun e2 => (if e2 = 0 then (some (filesM ((applyM (contsM l0) l1).getD []), 0)) else (some (([] : List S45), e2))))) else (none))) else (some (([] : List S45), e)))
theorem tree_Apply.mono : ∀ a0 a1 k, LeO (tree_Apply.f k a0 a1) (tree_Apply.f (k + 1) a0 a1) := by
  intro a0 a1 k
  unfold tree_Apply.f
  refine LeO.bind (tree_Right.mono _ _) (fun _ => ?_)
  refine LeO.ite ?_ (LeO.refl _)
  refine LeO.ite (LeO.refl _) ?_
  refine LeO.ite ?_ (LeO.refl _)
  refine LeO.ite (LeO.refl _) ?_
  exact LeO.bind (tree_Right.mono _ _) (fun _ => LeO.refl _)
theorem rd47_nat (l : List S47) (i : Nat) (h : i < l.length) : rd_T47 l (i : Int) = l[i] := by
  simp [rd_T47, List.getD_eq_getElem?_getD, List.getElem?_eq_getElem h]
/-- All keys of a map are fit. -/
def okM (m : MP) : Prop := ∀ s, (mget m s).isSome = true → okS s = true
theorem okM.put {m : MP} (h : okM m) {s : ByteArray} (hs : okS s = true) (x : Int) : okM (mput m s x) := by
  intro t ht
  rw [mget_put] at ht
  by_cases e : s = t
  · rw [← e]; exact hs
  · rw [if_neg e] at ht; exact h t ht
theorem okM.del {m : MP} (h : okM m) (s : ByteArray) : okM (mdel m s) := by
  intro t ht
  rw [mget_del] at ht
  by_cases e : s = t
  · rw [if_pos e] at ht; cases ht
  · rw [if_neg e] at ht; exact h t ht
theorem okM.paths {m : MP} (h : okM m) : (pathsM [m]).all okS = true := by
  rw [List.all_eq_true]
  intro s hs
  obtain ⟨m', hm, h2⟩ := (mem_pathsM _ s).1 hs
  rw [List.mem_singleton] at hm
  subst hm
  exact h s h2
theorem mdel_len (m : MP) (s : ByteArray) : (mdel m s).length ≤ m.length := List.length_filter_le _ _
set_option maxHeartbeats 4000000 in
set_option maxRecDepth 100000 in
theorem tree_Apply.calls (k : Nat) (A0 : Option Addr) (c0 : Nat) (l0 : List (S45)) (A1 : Option Addr) (c1 : Nat) (l1 : List (S47)) (r1 : List (S45)) (r2 : Int) (w : World) (hr0 : Kd.C k45 w A0 l0.length l0) (hc0 : l0.length ≤ c0) (hr1 : Kd.C k47 w A1 l1.length l1) (hc1 : l1.length ≤ c1) (h : tree_Apply.f k l0 l1 = some (r1, r2)) :
    Calls Tryd.prog 16 #[.slice A0 l0.length c0, .slice A1 l1.length c1] w fun e w' => ∃ v0_ : Value, e = .returned (.tuple #[v0_, .int .i64 r2]) ∧ Kd.R k45 45 w' w.heap.size (fun _ => True) v0_ r1 ∧ Below w.heap.size w w' := by
  have hu45 := Tryd.underlying45
  have hu47 := Tryd.underlying47
  unfold tree_Apply.f at h
  obtain ⟨e0, he0, h⟩ := Option.bind_eq_some_iff.mp h
  have hRt := Aside0.mk (tree_Right.calls k A0 c0 l0 e0 w hr0 hc0 he0)
  have HA := Aside0.mk (And.intro hr0 (And.intro hc0 (And.intro hr1 hc1)))
  clear hr0 hc0 hr1 hc1 he0
  go_enter Tryd.func16, Tryd.ntmps16
  go_wp2_with fail
  go_at_call 12
  refine hRt.out.mono ?_
  rintro e w1 ⟨rfl, hB1⟩
  have HB := Aside0.mk hB1
  clear hRt hB1
  by_cases hz : e0 = 0
  case neg =>
    rw [if_neg hz] at h
    have h2 := Option.some.inj h
    obtain ⟨h3, h4⟩ := Prod.mk.inj h2
    subst h3; subst h4
    clear h h2
    have hz2 : (e0 != 0) = true := by simpa using hz
    go_wp2
    go_ret2
    exact ⟨_, rfl, Kd.R_nil _ _ _ _ _, HB.out⟩
  subst hz
  rw [if_pos rfl] at h
  by_cases h16 : (l1.length : Int) > 16
  · rw [if_pos h16] at h
    have h2 := Option.some.inj h
    obtain ⟨rfl, rfl⟩ : r1 = [] ∧ r2 = 4 := ⟨(Prod.mk.inj h2).1.symm, (Prod.mk.inj h2).2.symm⟩
    clear h h2
    have hz2 : decide ((16 : Int) < (l1.length : Int)) = true := decide_eq_true h16
    go_wp2
    go_ret2
    exact ⟨_, rfl, Kd.R_nil _ _ _ _ _, HB.out⟩
  rw [if_neg h16] at h
  have hz2 : decide ((16 : Int) < (l1.length : Int)) = false := decide_eq_false h16
  split at h
  case isFalse => cases h
  rename_i hh
  have HH := Aside0.mk (And.intro hh (show l1.length ≤ 16 by omega))
  have H := Aside0.mk h
  clear h hh h16
  go_wp2_with fail
  go_at_call 36
  refine (tree_contents.calls_ A0 c0 l0 w1 (Kd.C_below HA.out.1 HB.out) HA.out.2.1 HH.out.1.1 (by have := HH.out.1; omega)).mono ?_
  rintro e w2 ⟨b, rfl, hb, hm, hB2⟩
  have HM0 := Aside0.mk hm
  have HB0 := Aside0.mk (below_then HB.out HB.out.size hB2)
  have HBB := Aside0.mk (show w.heap.size ≤ b from Nat.le_trans HB.out.size hb)
  clear hb hm hB2 hz2
  go_wp2
  go_loopg [26] l1.length (fun kq v26 w' => ∃ (i : Nat) (m : MP), v26 = .int .i64 (i : Int) ∧ Aside0 (i ≤ l1.length ∧ l1.length - i ≤ kq) ∧ Aside0 (SM Tryd.prog 9 3 w' b (l0.length + i) m) ∧ Aside0 (applyM m (l1.drop i) = applyM (contsM l0) l1 ∧ okM m ∧ m.length ≤ l0.length + i) ∧ Aside0 (Below w.heap.size w w'))
  case atStart => exact ⟨0, contsM l0, rfl, ⟨Nat.zero_le _, by omega⟩, HM0, ⟨⟨rfl, fun s hs => okS_conts HH.out.1.1 hs, by rw [contsM_len]; omega⟩⟩, HB0⟩
  case round =>
    obtain ⟨i, m, rfl, HK, HM, HP, HB2⟩ := hrel
    by_cases hlt : i < l1.length
    · cases gk with
      | zero => exfalso; have := HK.out; omega
      | succ k1 =>
        have c1 : decide ((i : Int) < (l1.length : Int)) = true := decide_eq_true (by omega)
        obtain ⟨ad, e, hx0, hx1⟩ := at_T47 HA.out.2.2.1 (i : Int) (by omega) (by omega)
        subst e
        rw [rd47_nat l1 i hlt, Int.toNat_natCast] at hx0 hx1
        replace hx0 := (HB2.out.cell (World.block_lt_of_cell? w _ hx0)).trans hx0
        replace hx1 := (HB2.out.cell (World.block_lt_of_cell? w _ hx1)).trans hx1
        have p : (0 ≤ (i : Int)) = True := eq_true (by omega)
        have q : ((i : Int) < (l1.length : Int)) = True := eq_true (by omega)
        have HSX := Aside0.mk (show okS l1[i].f0 = true ∧ okI l1[i].f1 = true from by
          have h1 := List.all_eq_true.1 HH.out.1.2.1 l1[i] (List.getElem_mem _)
          rw [Bool.and_eq_true] at h1
          exact h1)
        have HD := Aside0.mk (show applyM m (l1.drop i) = if l1[i].f1 = 0 then (if (mget m l1[i].f0).isSome = true then applyM (mdel m l1[i].f0) (l1.drop (i + 1)) else none) else applyM (mput m l1[i].f0 l1[i].f1) (l1.drop (i + 1)) from by rw [List.drop_eq_getElem_cons hlt, applyM])
        generalize l1[i].f0 = s at hx0 hx1 HSX HD
        generalize l1[i].f1 = x at hx0 hx1 HSX HD
        by_cases hx : x = 0
        · subst hx
          by_cases hs : (mget m s).isSome = true
          · go_wp2_with (first
              | ((with_reducible refine gate_dst (N := 9) rfl ?_); refine box_event ?hg (N := 9) ?hd (cs := #[.string (⟨#[]⟩ : ByteArray), .int .i64 0]) (t := 47) ?hr ?_; (case hd => rfl); (case hg => rfl); (case hr => first | (go_simp; done) | (go_simp; rfl)); intro gb hg w9 hbox hb
                 have n0_ := Aside0.mk (HM.out.below hb); have n1_ := Aside0.mk (below_step HB2.out hb); have n2_ := Aside0.mk hbox; have n3_ := Aside0.mk (by rw [hg]; exact HM.out.lt : b < gb)
                 have n4_ := Aside0.mk (by rw [hg]; exact HB2.out.size : w.heap.size ≤ gb)
                 have hcz0 : w9.cell? ⟨gb, 0, none⟩ = some (.string (⟨#[]⟩ : ByteArray)) := (blk_cell hbox 0).trans rfl
                 have hcz1 : w9.cell? ⟨gb, 1, none⟩ = some (.int .i64 0) := (blk_cell hbox 1).trans rfl
                 have hfz0 := blk_frozen hbox 0
                 have hfz1 := blk_frozen hbox 1
                 clear HM HB2 hb hbox hg
                 have HM := n0_; have HB2 := n1_; have BK := n2_; have GG := n3_; have GW := n4_; clear n0_ n1_ n2_ n3_ n4_)
              | (at_lookup
                 obtain ⟨D, hD, hRp⟩ := (HM.out.far (a := ⟨gb, 0, none⟩) (Nat.ne_of_lt GG.out) (.string s)).far (a := ⟨gb, 1, none⟩) (Nat.ne_of_lt GG.out) (.int .i64 0)
                 refine wpList_lookup_own_ok_int _ rfl _ _ 51 rfl 9 3 .i64 law9 Tryd.underlying51 Tryd.underlying3 (zero3 _) b (l0.length + i) D rfl hD _ _ rfl (key_ok HSX.out.1) ?_
                 intro c hat hwc
                 rw [(hRp s).1, hs]
                 clear hat hwc hD hRp)
              | (at_delete
                 obtain ⟨D, hD, hRp⟩ := (HM.out.far (a := ⟨gb, 0, none⟩) (Nat.ne_of_lt GG.out) (.string s)).far (a := ⟨gb, 1, none⟩) (Nat.ne_of_lt GG.out) (.int .i64 0)
                 refine wpList_delete_own _ rfl _ _ 51 9 rfl 3 law9 Tryd.underlying51 _ b (l0.length + i) D rfl hD _ _ rfl (key_ok HSX.out.1) ?_
                 intro w3 hown3 hturn3
                 have n0_ := Aside0.mk (show SM Tryd.prog 9 3 w3 b (l0.length + (i + 1)) (mdel m s) from SM.mono ⟨_, hown3, hRp.del s⟩ (by omega))
                 have n1_ := Aside0.mk (((HB2.out.setCell (p := ⟨gb, 0, none⟩) GW.out (.string s)).setCell (p := ⟨gb, 1, none⟩) GW.out (.int .i64 0)).grown hturn3.grown (by have := HB2.out.size; simpa [World.setCell] using this) (fun k hk => by cases hk; exact HBB.out))
                 clear HM HB2 hD hRp hown3 hturn3
                 have HM := n0_; have HB2 := n1_; clear n0_ n1_))
            go_roundg k1
            case measure => omega
            case rel =>
              refine ⟨i + 1, mdel m s, by rw [w_inc_ i (by have := HH.out; omega)], ⟨by omega, by have := HK.out; omega⟩, HM, ⟨⟨?_, HP.out.2.1.del s, by have := HP.out.2.2; have := mdel_len m s; omega⟩⟩, HB2⟩
              rw [← HP.out.1, HD.out, if_pos (by trivial), if_pos hs]
          · go_wp2_with (first
              | ((with_reducible refine gate_dst (N := 9) rfl ?_); refine box_event ?hg (N := 9) ?hd (cs := #[.string (⟨#[]⟩ : ByteArray), .int .i64 0]) (t := 47) ?hr ?_; (case hd => rfl); (case hg => rfl); (case hr => first | (go_simp; done) | (go_simp; rfl)); intro gb hg w9 hbox hb
                 have n0_ := Aside0.mk (HM.out.below hb); have n1_ := Aside0.mk (below_step HB2.out hb); have n2_ := Aside0.mk hbox; have n3_ := Aside0.mk (by rw [hg]; exact HM.out.lt : b < gb)
                 have n4_ := Aside0.mk (by rw [hg]; exact HB2.out.size : w.heap.size ≤ gb)
                 have hcz0 : w9.cell? ⟨gb, 0, none⟩ = some (.string (⟨#[]⟩ : ByteArray)) := (blk_cell hbox 0).trans rfl
                 have hcz1 : w9.cell? ⟨gb, 1, none⟩ = some (.int .i64 0) := (blk_cell hbox 1).trans rfl
                 have hfz0 := blk_frozen hbox 0
                 have hfz1 := blk_frozen hbox 1
                 clear HM HB2 hb hbox hg
                 have HM := n0_; have HB2 := n1_; have BK := n2_; have GG := n3_; have GW := n4_; clear n0_ n1_ n2_ n3_ n4_)
              | (at_lookup
                 obtain ⟨D, hD, hRp⟩ := (HM.out.far (a := ⟨gb, 0, none⟩) (Nat.ne_of_lt GG.out) (.string s)).far (a := ⟨gb, 1, none⟩) (Nat.ne_of_lt GG.out) (.int .i64 0)
                 refine wpList_lookup_own_ok_int _ rfl _ _ 51 rfl 9 3 .i64 law9 Tryd.underlying51 Tryd.underlying3 (zero3 _) b (l0.length + i) D rfl hD _ _ rfl (key_ok HSX.out.1) ?_
                 intro c hat hwc
                 rw [(hRp s).1, show (mget m s).isSome = false from by simpa using hs]
                 clear hat hwc hD hRp))
            have h1 := H.out
            have h3 : (applyM (contsM l0) l1).isNone = true := by rw [← HP.out.1, HD.out, if_pos (by trivial), if_neg hs]; rfl
            rw [if_pos h3] at h1
            obtain ⟨h4, h5⟩ := Prod.mk.inj (Option.some.inj h1)
            subst h4; subst h5
            go_ret2
            exact ⟨_, rfl, Kd.R_nil _ _ _ _ _, (HB2.out.setCell (p := ⟨gb, 0, none⟩) GW.out (.string s)).setCell (p := ⟨gb, 1, none⟩) GW.out (.int .i64 0)⟩
        · have hxb : (x != 0) = true := by simpa using hx
          go_wp2_with (first
            | ((with_reducible refine gate_dst (N := 9) rfl ?_); refine box_event ?hg (N := 9) ?hd (cs := #[.string (⟨#[]⟩ : ByteArray), .int .i64 0]) (t := 47) ?hr ?_; (case hd => rfl); (case hg => rfl); (case hr => first | (go_simp; done) | (go_simp; rfl)); intro gb hg w9 hbox hb
               have n0_ := Aside0.mk (HM.out.below hb); have n1_ := Aside0.mk (below_step HB2.out hb); have n2_ := Aside0.mk hbox; have n3_ := Aside0.mk (by rw [hg]; exact HM.out.lt : b < gb)
               have n4_ := Aside0.mk (by rw [hg]; exact HB2.out.size : w.heap.size ≤ gb)
               have hcz0 : w9.cell? ⟨gb, 0, none⟩ = some (.string (⟨#[]⟩ : ByteArray)) := (blk_cell hbox 0).trans rfl
               have hcz1 : w9.cell? ⟨gb, 1, none⟩ = some (.int .i64 0) := (blk_cell hbox 1).trans rfl
               have hfz0 := blk_frozen hbox 0
               have hfz1 := blk_frozen hbox 1
               clear HM HB2 hb hbox hg
               have HM := n0_; have HB2 := n1_; have BK := n2_; have GG := n3_; have GW := n4_; clear n0_ n1_ n2_ n3_ n4_)
            | (at_mapUpdate
               obtain ⟨D, hD, hRp⟩ := (HM.out.far (a := ⟨gb, 0, none⟩) (Nat.ne_of_lt GG.out) (.string s)).far (a := ⟨gb, 1, none⟩) (Nat.ne_of_lt GG.out) (.int .i64 x)
               refine wpList_mapUpdate_own _ rfl _ _ _ 51 rfl 9 3 law9 Tryd.underlying51 _ b (l0.length + i) D rfl hD (by have := HK.out; have := HH.out; unfold maxLen; omega) _ _ _ rfl rfl (key_ok HSX.out.1) _ [] (val_ok HSX.out.2) ?_
               intro w3 hown3 hgrow3
               have n0_ := Aside0.mk (show SM Tryd.prog 9 3 w3 b (l0.length + (i + 1)) (mput m s x) from ⟨_, hown3, hRp.put hD.isMap s x⟩)
               have n1_ := Aside0.mk (((HB2.out.setCell (p := ⟨gb, 0, none⟩) GW.out (.string s)).setCell (p := ⟨gb, 1, none⟩) GW.out (.int .i64 x)).grown hgrow3 (by have := HB2.out.size; simpa [World.setCell] using this) (fun k hk => by cases hk; exact HBB.out))
               clear HM HB2 hD hRp hown3 hgrow3
               have HM := n0_; have HB2 := n1_; clear n0_ n1_))
          go_roundg k1
          case measure => omega
          case rel =>
            refine ⟨i + 1, mput m s x, by rw [w_inc_ i (by have := HH.out; omega)], ⟨by omega, by have := HK.out; omega⟩, HM, ⟨⟨?_, HP.out.2.1.put HSX.out.1 x, by have := HP.out.2.2; rw [mput, List.length_cons]; omega⟩⟩, HB2⟩
            rw [← HP.out.1, HD.out, if_neg hx]
    · have hi : i = l1.length := by have := HK.out; omega
      have c1 : decide ((i : Int) < (l1.length : Int)) = false := decide_eq_false (by omega)
      have hA : applyM (contsM l0) l1 = some m := by rw [← HP.out.1, List.drop_of_length_le (by omega), applyM]
      have h1 := H.out
      rw [hA, if_neg (by simp)] at h1
      obtain ⟨e2, he2, h1⟩ := Option.bind_eq_some_iff.mp h1
      rw [Option.getD_some] at h1 he2
      have hfl := Aside0.mk (tree_files.calls_ b m wr (HM.out.mono (by have := HH.out; omega)) HP.out.2.1.paths (by have := HP.out.2.2; have := HH.out; omega))
      have HE2 := Aside0.mk (And.intro he2 h1)
      have HBr := Aside0.mk HB2.out
      clear hA h1 he2 HK HM HP HB2
      go_wp2_with fail
      go_at_call 37
      refine hfl.out.mono ?_
      rintro e w3 ⟨v3, rfl, hR3, hB3⟩
      obtain ⟨A3, c3, rfl⟩ := Kd.R_slice hR3
      have hr3 := Aside0.mk (tree_Right.calls k A3 c3 (filesM m) e2 w3 (Kd.R_reads' hR3).2.2 (Kd.R_reads' hR3).2.1 HE2.out.1)
      have HO3 := Aside0.mk (Kd.R_lower hR3 HBr.out.size)
      have HB3 := Aside0.mk (below_then HBr.out HBr.out.size hB3)
      clear hfl hR3 hB3
      go_wp2_with fail
      go_at_call 12
      refine hr3.out.mono ?_
      rintro e w4 ⟨rfl, hB4⟩
      have HO4 := Aside0.mk (Kd.R_below HO3.out hB4)
      have HB4 := Aside0.mk (below_then HB3.out HB3.out.size hB4)
      have h1 := HE2.out.2
      clear hr3 hB4 HO3 HB3 HBr
      by_cases hz : e2 = 0
      · subst hz
        rw [if_pos rfl] at h1
        obtain ⟨h4, h5⟩ := Prod.mk.inj (Option.some.inj h1)
        subst h4; subst h5
        clear h1 HE2
        go_wp2
        go_ret2
        exact ⟨_, rfl, HO4.out, HB4.out⟩
      · rw [if_neg hz] at h1
        obtain ⟨h4, h5⟩ := Prod.mk.inj (Option.some.inj h1)
        subst h4; subst h5
        have hz2 : (e2 != 0) = true := by simpa using hz
        clear h1 HE2
        go_wp2
        go_ret2
        exact ⟨_, rfl, Kd.R_nil _ _ _ _ _, HB4.out⟩

/-! ### codesearchref25_Files: function 18 -/
def codesearchref25_Files.l0 : Nat → List (S45) → List (S45) → Int → Option (Bool)
|0,_,_,_ => none
|k + 1,x0,x1,x5 => if x5 < (x0.length : Int) then (if 0 ≤ x5 then (if x5 < (x1.length : Int) then (if (!((((rd_T45 x0 x5).f0).toList) == (((rd_T45 x1 x5).f0).toList)) || (!(((rd_T45 x0 x5).f1) == ((rd_T45 x1 x5).f1)))) = true then (some false) else (codesearchref25_Files.l0 k x0 x1 (wrap64 (x5 + 1)))) else (none)) else (none)) else (some true)
def codesearchref25_Files.f (k : Nat) (l0 : List (S45)) (l1 : List (S45)) : Option (Bool) := if (l0.length : Int) = (l1.length : Int) then (codesearchref25_Files.l0 k l0 l1 0) else (some false)
theorem codesearchref25_Files.mono_l : ∀ k, (∀ y0 y1 y2, LeO (codesearchref25_Files.l0 k y0 y1 y2) (codesearchref25_Files.l0 (k + 1) y0 y1 y2))
|0 => fun _ _ _ r h => by simp [codesearchref25_Files.l0] at h
|k + 1 => by
  have ih0 := codesearchref25_Files.mono_l k
  ·intro y0 y1 y2
   unfold codesearchref25_Files.l0
   repeat' first
  |(with_reducible exact ih0 _ _ _)
  |(with_reducible exact LeO.refl _)
  |(with_reducible exact LeO.none _)
  |(with_reducible refine LeO.ite ?_ ?_)
  |(with_reducible refine LeO.bind ?_ (fun _ => ?_))
  |exact ih0 _ _ _
  |exact LeO.none _
  |refine LeO.ite ?_ ?_
  |refine LeO.bind ?_ (fun _ => ?_)
theorem codesearchref25_Files.mono : ∀ a0 a1 k, LeO (codesearchref25_Files.f k a0 a1) (codesearchref25_Files.f (k + 1) a0 a1) := by
 intro a0 a1 k
 have ih0 := codesearchref25_Files.mono_l k
 unfold codesearchref25_Files.f
 repeat' first
  |(with_reducible exact ih0 _ _ _)
  |(with_reducible exact LeO.refl _)
  |(with_reducible exact LeO.none _)
  |(with_reducible refine LeO.ite ?_ ?_)
  |(with_reducible refine LeO.bind ?_ (fun _ => ?_))
  |exact ih0 _ _ _
  |exact LeO.none _
  |refine LeO.ite ?_ ?_
  |refine LeO.bind ?_ (fun _ => ?_)
set_option maxHeartbeats 4000000 in
set_option maxRecDepth 100000 in
theorem codesearchref25_Files.calls (k : Nat) (A0 : Option Addr) (c0 : Nat) (l0 : List (S45)) (A1 : Option Addr) (c1 : Nat) (l1 : List (S45)) (r : Bool) (w : World) (hr0 : Kd.C k45 w A0 l0.length l0) (hc0 : l0.length ≤ c0) (hr1 : Kd.C k45 w A1 l1.length l1) (hc1 : l1.length ≤ c1) (h : codesearchref25_Files.f k l0 l1 = some r) :
  Calls Tryd.prog 18 #[.slice A0 l0.length c0,.slice A1 l1.length c1] w fun e w' => e = .returned (.bool r) ∧ Drawn0 w w' := by
 have hu45 := Tryd.underlying45
 have HR0 := Aside0.mk hr0
 have HC0 := Aside0.mk hc0
 clear hr0 hc0
 have HR1 := Aside0.mk hr1
 have HC1 := Aside0.mk hc1
 clear hr1 hc1
 have H : (if (l0.length : Int) = (l1.length : Int) then (codesearchref25_Files.l0 k l0 l1 0) else (some false)) = some r := h
 clear h
 by_cases c3 : (l0.length : Int) = (l1.length : Int)
 ·rw [if_pos c3] at H
  have c3b0 : ((l0.length : Int) == (l1.length : Int)) = true := beq_iff_eq.mpr c3
  have c3b1 : ((l0.length : Int) != (l1.length : Int)) = false := bne_eq_false_iff_eq.mpr c3
  have c3b2 : (l0.length == l1.length) = true := by first|simpa using c3|(simp at c3 ⊢;omega)
  clear c3
  have H' := Aside0.mk H
  clear H
  go_enter Tryd.func18,Tryd.ntmps18
  go_wp2
  repeat (go_quiet (fail);try go_wp2)
  go_loopg [5] k (fun kq v5 w' => ∃ (x5_1 : Int),v5 = .int .i64 x5_1 ∧ Aside0 (codesearchref25_Files.l0 kq l0 l1 x5_1 = some r) ∧ Aside0 (kq ≤ k) ∧ Drawn0 w w')
  case atStart => exact ⟨(0),(by first|rfl|(simp;done)|(simp [*];done)),H',⟨Nat.le_refl _⟩,by repeat (first|exact Drawn0.refl _|apply Drawn0.step)⟩
  case round =>
   clear H'
   try clear c1
   try clear p2
   try clear c3
   try clear c3b0
   try clear c3b1
   try clear c3b2
   obtain ⟨x5_1,rfl,HA,HK1,⟨m1,rfl⟩⟩ := hrel
   cases gk with
  |zero => exact absurd HA.out (by simp [codesearchref25_Files.l0])
  |succ k1 =>
    have H := HA.out
    clear HA
    simp only [codesearchref25_Files.l0] at H
    by_cases c4 : x5_1 < (l0.length : Int)
    ·rw [if_pos c4] at H
     have c4b0 : decide (x5_1 < (l0.length : Int)) = true := decide_eq_true c4
     clear c4
     by_cases c5 : 0 ≤ x5_1
     ·rw [if_pos c5] at H
      have c5b0 : decide (0 ≤ x5_1) = true := decide_eq_true c5
      clear c5
      by_cases c6 : x5_1 < (l1.length : Int)
      ·rw [if_pos c6] at H
       have c6b0 : decide (x5_1 < (l1.length : Int)) = true := decide_eq_true c6
       clear c6
       by_cases c7 : (!((((rd_T45 l0 x5_1).f0).toList) == (((rd_T45 l1 x5_1).f0).toList)) || (!(((rd_T45 l0 x5_1).f1) == ((rd_T45 l1 x5_1).f1)))) = true
       ·rw [if_pos c7] at H
        have c7b0 : (!((((rd_T45 l0 x5_1).f0).toList) == (((rd_T45 l1 x5_1).f0).toList)) || (!(((rd_T45 l0 x5_1).f1) == ((rd_T45 l1 x5_1).f1)))) = true := c7
        clear c7
        obtain rfl := Option.some.inj H
        have p147 : 0 ≤ (x5_1 : Int) := of_decide_eq_true (by first|(with_reducible assumption)|assumption)
        have q147 : x5_1 < (l0.length : Int) := of_decide_eq_true (by first|(with_reducible assumption)|assumption)
        obtain ⟨ad147,e147,hx147_0,hx147_1⟩ := at_T45 HR0.out x5_1 p147 q147
        cases e147
        replace p147 := eq_true p147
        replace q147 := eq_true q147
        have p148 : 0 ≤ (x5_1 : Int) := of_decide_eq_true (by first|(with_reducible assumption)|assumption)
        have q148 : x5_1 < (l1.length : Int) := of_decide_eq_true (by first|(with_reducible assumption)|assumption)
        obtain ⟨ad148,e148,hx148_0,hx148_1⟩ := at_T45 HR1.out x5_1 p148 q148
        cases e148
        replace p148 := eq_true p148
        replace q148 := eq_true q148
        go_wp2
        repeat (go_quiet (fail);try go_wp2)
        go_ret
        exact ⟨by first|rfl|(simp;done)|(simp [*];done),by repeat (first|exact Drawn0.refl _|apply Drawn0.step)⟩
       ·rw [if_neg c7] at H
        have c7b0 : (!((((rd_T45 l0 x5_1).f0).toList) == (((rd_T45 l1 x5_1).f0).toList)) || (!(((rd_T45 l0 x5_1).f1) == ((rd_T45 l1 x5_1).f1)))) = false := by simpa using c7
        clear c7
        have H' := Aside0.mk H
        clear H
        have p147 : 0 ≤ (x5_1 : Int) := of_decide_eq_true (by first|(with_reducible assumption)|assumption)
        have q147 : x5_1 < (l0.length : Int) := of_decide_eq_true (by first|(with_reducible assumption)|assumption)
        obtain ⟨ad147,e147,hx147_0,hx147_1⟩ := at_T45 HR0.out x5_1 p147 q147
        cases e147
        replace p147 := eq_true p147
        replace q147 := eq_true q147
        have p148 : 0 ≤ (x5_1 : Int) := of_decide_eq_true (by first|(with_reducible assumption)|assumption)
        have q148 : x5_1 < (l1.length : Int) := of_decide_eq_true (by first|(with_reducible assumption)|assumption)
        obtain ⟨ad148,e148,hx148_0,hx148_1⟩ := at_T45 HR1.out x5_1 p148 q148
        cases e148
        replace p148 := eq_true p148
        replace q148 := eq_true q148
        go_wp2
        repeat (go_quiet (fail);try go_wp2)
        go_roundg k1
        case measure => have := HK1.out;omega
        case rel => exact ⟨(wrap64 (x5_1 + 1)),(by first|rfl|(simp;done)|(simp [*];done)),H',⟨by have := HK1.out;omega⟩,by repeat (first|exact Drawn0.refl _|apply Drawn0.step)⟩
      ·rw [if_neg c6] at H
       exact absurd H (by simp)
     ·rw [if_neg c5] at H
      exact absurd H (by simp)
    ·rw [if_neg c4] at H
     have c4b0 : decide (x5_1 < (l0.length : Int)) = false := decide_eq_false c4
     clear c4
     obtain rfl := Option.some.inj H
     go_wp2
     repeat (go_quiet (fail);try go_wp2)
     go_ret
     exact ⟨by first|rfl|(simp;done)|(simp [*];done),by repeat (first|exact Drawn0.refl _|apply Drawn0.step)⟩
 ·rw [if_neg c3] at H
  have c3b0 : ((l0.length : Int) == (l1.length : Int)) = false := beq_eq_false_iff_ne.mpr c3
  have c3b1 : ((l0.length : Int) != (l1.length : Int)) = true := bne_iff_ne.mpr c3
  have c3b2 : (l0.length == l1.length) = false := by first|simpa using c3|(simp at c3 ⊢;omega)
  obtain rfl := Option.some.inj H
  go_enter Tryd.func18,Tryd.ntmps18
  go_wp2
  repeat (go_quiet (fail);try go_wp2)
  go_ret
  exact ⟨by first|rfl|(simp;done)|(simp [*];done),by repeat (first|exact Drawn0.refl _|apply Drawn0.step)⟩

/-! ### codesearchref25_Changes: function 20 -/
def codesearchref25_Changes.l0 : Nat → List (S47) → List (S47) → Int → Option (Bool)
|0,_,_,_ => none
|k + 1,x0,x1,x5 => if x5 < (x0.length : Int) then (if 0 ≤ x5 then (if x5 < (x1.length : Int) then (if (!((((rd_T47 x0 x5).f0).toList) == (((rd_T47 x1 x5).f0).toList)) || (!(((rd_T47 x0 x5).f1) == ((rd_T47 x1 x5).f1)))) = true then (some false) else (codesearchref25_Changes.l0 k x0 x1 (wrap64 (x5 + 1)))) else (none)) else (none)) else (some true)
def codesearchref25_Changes.f (k : Nat) (l0 : List (S47)) (l1 : List (S47)) : Option (Bool) := if (l0.length : Int) = (l1.length : Int) then (codesearchref25_Changes.l0 k l0 l1 0) else (some false)
theorem codesearchref25_Changes.mono_l : ∀ k, (∀ y0 y1 y2, LeO (codesearchref25_Changes.l0 k y0 y1 y2) (codesearchref25_Changes.l0 (k + 1) y0 y1 y2))
|0 => fun _ _ _ r h => by simp [codesearchref25_Changes.l0] at h
|k + 1 => by
  have ih0 := codesearchref25_Changes.mono_l k
  ·intro y0 y1 y2
   unfold codesearchref25_Changes.l0
   repeat' first
  |(with_reducible exact ih0 _ _ _)
  |(with_reducible exact LeO.refl _)
  |(with_reducible exact LeO.none _)
  |(with_reducible refine LeO.ite ?_ ?_)
  |(with_reducible refine LeO.bind ?_ (fun _ => ?_))
  |exact ih0 _ _ _
  |exact LeO.none _
  |refine LeO.ite ?_ ?_
  |refine LeO.bind ?_ (fun _ => ?_)
theorem codesearchref25_Changes.mono : ∀ a0 a1 k, LeO (codesearchref25_Changes.f k a0 a1) (codesearchref25_Changes.f (k + 1) a0 a1) := by
 intro a0 a1 k
 have ih0 := codesearchref25_Changes.mono_l k
 unfold codesearchref25_Changes.f
 repeat' first
  |(with_reducible exact ih0 _ _ _)
  |(with_reducible exact LeO.refl _)
  |(with_reducible exact LeO.none _)
  |(with_reducible refine LeO.ite ?_ ?_)
  |(with_reducible refine LeO.bind ?_ (fun _ => ?_))
  |exact ih0 _ _ _
  |exact LeO.none _
  |refine LeO.ite ?_ ?_
  |refine LeO.bind ?_ (fun _ => ?_)
set_option maxHeartbeats 4000000 in
set_option maxRecDepth 100000 in
theorem codesearchref25_Changes.calls (k : Nat) (A0 : Option Addr) (c0 : Nat) (l0 : List (S47)) (A1 : Option Addr) (c1 : Nat) (l1 : List (S47)) (r : Bool) (w : World) (hr0 : Kd.C k47 w A0 l0.length l0) (hc0 : l0.length ≤ c0) (hr1 : Kd.C k47 w A1 l1.length l1) (hc1 : l1.length ≤ c1) (h : codesearchref25_Changes.f k l0 l1 = some r) :
  Calls Tryd.prog 20 #[.slice A0 l0.length c0,.slice A1 l1.length c1] w fun e w' => e = .returned (.bool r) ∧ Drawn0 w w' := by
 have hu47 := Tryd.underlying47
 have HR0 := Aside0.mk hr0
 have HC0 := Aside0.mk hc0
 clear hr0 hc0
 have HR1 := Aside0.mk hr1
 have HC1 := Aside0.mk hc1
 clear hr1 hc1
 have H : (if (l0.length : Int) = (l1.length : Int) then (codesearchref25_Changes.l0 k l0 l1 0) else (some false)) = some r := h
 clear h
 by_cases c3 : (l0.length : Int) = (l1.length : Int)
 ·rw [if_pos c3] at H
  have c3b0 : ((l0.length : Int) == (l1.length : Int)) = true := beq_iff_eq.mpr c3
  have c3b1 : ((l0.length : Int) != (l1.length : Int)) = false := bne_eq_false_iff_eq.mpr c3
  have c3b2 : (l0.length == l1.length) = true := by first|simpa using c3|(simp at c3 ⊢;omega)
  clear c3
  have H' := Aside0.mk H
  clear H
  go_enter Tryd.func20,Tryd.ntmps20
  go_wp2
  repeat (go_quiet (fail);try go_wp2)
  go_loopg [5] k (fun kq v5 w' => ∃ (x5_1 : Int),v5 = .int .i64 x5_1 ∧ Aside0 (codesearchref25_Changes.l0 kq l0 l1 x5_1 = some r) ∧ Aside0 (kq ≤ k) ∧ Drawn0 w w')
  case atStart => exact ⟨(0),(by first|rfl|(simp;done)|(simp [*];done)),H',⟨Nat.le_refl _⟩,by repeat (first|exact Drawn0.refl _|apply Drawn0.step)⟩
  case round =>
   clear H'
   try clear c1
   try clear c2
   try clear p2
   try clear c3
   try clear c3b0
   try clear c3b1
   try clear c3b2
   obtain ⟨x5_1,rfl,HA,HK1,⟨m1,rfl⟩⟩ := hrel
   cases gk with
  |zero => exact absurd HA.out (by simp [codesearchref25_Changes.l0])
  |succ k1 =>
    have H := HA.out
    clear HA
    simp only [codesearchref25_Changes.l0] at H
    by_cases c4 : x5_1 < (l0.length : Int)
    ·rw [if_pos c4] at H
     have c4b0 : decide (x5_1 < (l0.length : Int)) = true := decide_eq_true c4
     clear c4
     by_cases c5 : 0 ≤ x5_1
     ·rw [if_pos c5] at H
      have c5b0 : decide (0 ≤ x5_1) = true := decide_eq_true c5
      clear c5
      by_cases c6 : x5_1 < (l1.length : Int)
      ·rw [if_pos c6] at H
       have c6b0 : decide (x5_1 < (l1.length : Int)) = true := decide_eq_true c6
       clear c6
       by_cases c7 : (!((((rd_T47 l0 x5_1).f0).toList) == (((rd_T47 l1 x5_1).f0).toList)) || (!(((rd_T47 l0 x5_1).f1) == ((rd_T47 l1 x5_1).f1)))) = true
       ·rw [if_pos c7] at H
        have c7b0 : (!((((rd_T47 l0 x5_1).f0).toList) == (((rd_T47 l1 x5_1).f0).toList)) || (!(((rd_T47 l0 x5_1).f1) == ((rd_T47 l1 x5_1).f1)))) = true := c7
        clear c7
        obtain rfl := Option.some.inj H
        have p149 : 0 ≤ (x5_1 : Int) := of_decide_eq_true (by first|(with_reducible assumption)|assumption)
        have q149 : x5_1 < (l0.length : Int) := of_decide_eq_true (by first|(with_reducible assumption)|assumption)
        obtain ⟨ad149,e149,hx149_0,hx149_1⟩ := at_T47 HR0.out x5_1 p149 q149
        cases e149
        replace p149 := eq_true p149
        replace q149 := eq_true q149
        have p150 : 0 ≤ (x5_1 : Int) := of_decide_eq_true (by first|(with_reducible assumption)|assumption)
        have q150 : x5_1 < (l1.length : Int) := of_decide_eq_true (by first|(with_reducible assumption)|assumption)
        obtain ⟨ad150,e150,hx150_0,hx150_1⟩ := at_T47 HR1.out x5_1 p150 q150
        cases e150
        replace p150 := eq_true p150
        replace q150 := eq_true q150
        go_wp2
        repeat (go_quiet (fail);try go_wp2)
        go_ret
        exact ⟨by first|rfl|(simp;done)|(simp [*];done),by repeat (first|exact Drawn0.refl _|apply Drawn0.step)⟩
       ·rw [if_neg c7] at H
        have c7b0 : (!((((rd_T47 l0 x5_1).f0).toList) == (((rd_T47 l1 x5_1).f0).toList)) || (!(((rd_T47 l0 x5_1).f1) == ((rd_T47 l1 x5_1).f1)))) = false := by simpa using c7
        clear c7
        have H' := Aside0.mk H
        clear H
        have p149 : 0 ≤ (x5_1 : Int) := of_decide_eq_true (by first|(with_reducible assumption)|assumption)
        have q149 : x5_1 < (l0.length : Int) := of_decide_eq_true (by first|(with_reducible assumption)|assumption)
        obtain ⟨ad149,e149,hx149_0,hx149_1⟩ := at_T47 HR0.out x5_1 p149 q149
        cases e149
        replace p149 := eq_true p149
        replace q149 := eq_true q149
        have p150 : 0 ≤ (x5_1 : Int) := of_decide_eq_true (by first|(with_reducible assumption)|assumption)
        have q150 : x5_1 < (l1.length : Int) := of_decide_eq_true (by first|(with_reducible assumption)|assumption)
        obtain ⟨ad150,e150,hx150_0,hx150_1⟩ := at_T47 HR1.out x5_1 p150 q150
        cases e150
        replace p150 := eq_true p150
        replace q150 := eq_true q150
        go_wp2
        repeat (go_quiet (fail);try go_wp2)
        go_roundg k1
        case measure => have := HK1.out;omega
        case rel => exact ⟨(wrap64 (x5_1 + 1)),(by first|rfl|(simp;done)|(simp [*];done)),H',⟨by have := HK1.out;omega⟩,by repeat (first|exact Drawn0.refl _|apply Drawn0.step)⟩
      ·rw [if_neg c6] at H
       exact absurd H (by simp)
     ·rw [if_neg c5] at H
      exact absurd H (by simp)
    ·rw [if_neg c4] at H
     have c4b0 : decide (x5_1 < (l0.length : Int)) = false := decide_eq_false c4
     clear c4
     obtain rfl := Option.some.inj H
     go_wp2
     repeat (go_quiet (fail);try go_wp2)
     go_ret
     exact ⟨by first|rfl|(simp;done)|(simp [*];done),by repeat (first|exact Drawn0.refl _|apply Drawn0.step)⟩
 ·rw [if_neg c3] at H
  have c3b0 : ((l0.length : Int) == (l1.length : Int)) = false := beq_eq_false_iff_ne.mpr c3
  have c3b1 : ((l0.length : Int) != (l1.length : Int)) = true := bne_iff_ne.mpr c3
  have c3b2 : (l0.length == l1.length) = false := by first|simpa using c3|(simp at c3 ⊢;omega)
  obtain rfl := Option.some.inj H
  go_enter Tryd.func20,Tryd.ntmps20
  go_wp2
  repeat (go_quiet (fail);try go_wp2)
  go_ret
  exact ⟨by first|rfl|(simp;done)|(simp [*];done),by repeat (first|exact Drawn0.refl _|apply Drawn0.step)⟩

/-! ### tree_Diff: function 21 (by hand) -/
open Go.Maps
def diffM (x y : MP) : List S47 := ((pathsM [x, y]).filter fun s => decide (valM x s ≠ valM y s)).map fun s => ⟨s, valM y s⟩
theorem diff_snoc (x y : MP) (ks : List ByteArray) (i : Nat) (h : i < ks.length) :
    (((ks.take (i + 1)).filter fun s => decide (valM x s ≠ valM y s)).map fun s => (⟨s, valM y s⟩ : S47)) = (((ks.take i).filter fun s => decide (valM x s ≠ valM y s)).map fun s => (⟨s, valM y s⟩ : S47)) ++ (if valM x ks[i] = valM y ks[i] then [] else [⟨ks[i], valM y ks[i]⟩]) := by
  rw [List.take_succ_eq_append_getElem h, List.filter_append, List.map_append]
  congr 1
  by_cases hz : valM x ks[i] = valM y ks[i]
  · rw [if_pos hz]; simp [hz]
  · rw [if_neg hz]; simp [hz]
def tree_Diff.f (l0 l1 : List S45) : Option (List S47) := if okFs l0 = true ∧ okFs l1 = true ∧ l0.length ≤ 100000 ∧ l1.length ≤ 100000 then some (diffM (contsM l0) (contsM l1)) else none
set_option maxHeartbeats 4000000 in
set_option maxRecDepth 100000 in
theorem tree_Diff.calls (A0 : Option Addr) (c0 : Nat) (l0 : List (S45)) (A1 : Option Addr) (c1 : Nat) (l1 : List (S45)) (r : List (S47)) (w : World) (hr0 : Kd.C k45 w A0 l0.length l0) (hc0 : l0.length ≤ c0) (hr1 : Kd.C k45 w A1 l1.length l1) (hc1 : l1.length ≤ c1) (h : tree_Diff.f l0 l1 = some r) :
    Calls Tryd.prog 21 #[.slice A0 l0.length c0, .slice A1 l1.length c1] w fun e w' => ∃ v0_ : Value, e = .returned (v0_) ∧ Kd.R k47 47 w' w.heap.size (fun _ => True) v0_ r ∧ Below w.heap.size w w' := by
  unfold tree_Diff.f at h
  split at h
  case isFalse => cases h
  rename_i hh
  obtain rfl := Option.some.inj h
  have hu47 := Tryd.underlying47
  have info47 : (Tryd.prog.info? 47).map (fun i => (i.zero, i.size, i.bytes)) = some (some (.agg #[(.string ⟨#[]⟩), (.int .i64 0)]), 2, 24) := by kernel_rfl
  have HI := Aside0.mk info47
  have HH := Aside0.mk hh
  have hca := Aside0.mk (tree_contents.calls_ A0 c0 l0 w hr0 hc0 hh.1 (by omega))
  have HR1 := Aside0.mk (And.intro hr1 hc1)
  clear h hh hr0 hc0 hr1 hc1 info47
  go_enter Tryd.func21, Tryd.ntmps21
  go_wp2_with fail
  go_at_call 36
  refine hca.out.mono ?_
  rintro e w1 ⟨b1, rfl, hb1, hm1, hB1⟩
  have hcb := Aside0.mk (tree_contents.calls_ A1 c1 l1 w1 (Kd.C_below HR1.out.1 hB1) HR1.out.2 HH.out.2.1 (by have := HH.out; omega))
  have HM1 := Aside0.mk (hm1.mono (n' := 1000000) (by have := HH.out; omega))
  have HB1 := Aside0.mk hB1
  clear hca hm1 hB1
  go_wp2_with fail
  go_at_call 36
  refine hcb.out.mono ?_
  rintro e w2 ⟨b2, rfl, hb2, hm2, hB2⟩
  have HMx := Aside0.mk (HM1.out.below hB2)
  have HMy := Aside0.mk (hm2.mono (n' := 1000000) (by have := HH.out; omega))
  have HB2 := Aside0.mk (below_then HB1.out HB1.out.size hB2)
  clear hcb hm2 hB2 HM1 HB1 hb1 hb2
  go_wp2_with fail
  go_at_call 40
  generalize hw3 : w2.alloc _ = w3
  have hs3 : w3.heap.size = w2.heap.size + 1 := by rw [← hw3]; simp
  have hb3 : Below w2.heap.size w2 w3 := by rw [← hw3]; exact below_alloc (Below.refl _ _) _
  have hat : MapsAt w3 w2.heap.size [(b1, contsM l0), (b2, contsM l1)] := by
    intro j hj
    have hj0 : j = 0 ∨ j = 1 := by simp at hj; omega
    rcases hj0 with rfl | rfl
    · exact ⟨by rw [← hw3]; simp, HMx.out.below hb3⟩
    · exact ⟨by rw [← hw3]; simp, HMy.out.below hb3⟩
  refine (tree_paths.calls_ w2.heap.size 2 [(b1, contsM l0), (b2, contsM l1)] w3 (by omega) hat (by simp)).mono ?_
  rintro e w4 ⟨v, rfl, hR, hB⟩
  clear hw3 hat
  have hB24 := below_then hb3 hb3.size hB
  obtain ⟨A, cA, rfl⟩ := Kd.R_slice hR
  simp only [List.map_cons, List.map_nil] at hR ⊢
  have hpl := pathsM_len [contsM l0, contsM l1] 100000 (by intro m hm; simp at hm; rcases hm with rfl | rfl <;> rw [contsM_len] <;> have := HH.out <;> omega)
  have hok : (pathsM [contsM l0, contsM l1]).all okS = true := okS_paths (ls := [l0, l1]) (by intro l hl; simp at hl; rcases hl with rfl | rfl; exact HH.out.1; exact HH.out.2.1)
  have HP := Aside0.mk (And.intro (Kd.R_reads' hR).2.2 (And.intro (by simpa using hpl) hok))
  have HX := Aside0.mk (HMx.out.below hB24)
  have HY := Aside0.mk (HMy.out.below hB24)
  have HB := Aside0.mk (below_then HB2.out HB2.out.size hB24)
  clear hs3 hb3 hR hB hB24 hpl hok HMx HMy HB2
  change Aside0 (Kd.C Kd.string w4 A (pathsM [contsM l0, contsM l1]).length (pathsM [contsM l0, contsM l1]) ∧ (pathsM [contsM l0, contsM l1]).length ≤ 200000 ∧ _) at HP
  generalize hks : pathsM [contsM l0, contsM l1] = ks at HP
  have HKS := Aside0.mk hks
  clear hks
  generalize hx0 : contsM l0 = x at HX HKS
  generalize hy0 : contsM l1 = y at HY HKS
  have HXY := Aside0.mk (And.intro hx0 hy0)
  clear hx0 hy0
  go_wp2
  go_loopg [7, 19] ks.length (fun kq v7 v19 w' => ∃ (i : Nat), v19 = .int .i64 (i : Int) ∧ Aside0 (i ≤ ks.length ∧ ks.length - i ≤ kq) ∧ Aside0 (Kd.R k47 47 w' w4.heap.size (fun _ => True) v7 (((ks.take i).filter fun s => decide (valM x s ≠ valM y s)).map fun s => (⟨s, valM y s⟩ : S47))) ∧ Aside0 (Below w4.heap.size w4 w'))
  case atStart => exact ⟨0, rfl, ⟨Nat.zero_le _, by omega⟩, ⟨Kd.R_nil _ _ _ _ _⟩, ⟨Below.refl _ _⟩⟩
  case round =>
    obtain ⟨i, rfl, HK, HO, HB2⟩ := hrel
    by_cases hlt : i < ks.length
    · cases gk with
      | zero => exfalso; have := HK.out; omega
      | succ k1 =>
        have c1 : decide ((i : Int) < (ks.length : Int)) = true := decide_eq_true (by omega)
        obtain ⟨ad, e, hx⟩ := at9 HP.out.1 i hlt rfl
        subst e
        replace hx := (HB2.out.cell (World.block_lt_of_cell? w4 _ hx)).trans hx
        have p : (0 ≤ (i : Int)) = True := eq_true (by omega)
        have q : ((i : Int) < (ks.length : Int)) = True := eq_true (by omega)
        have HS := Aside0.mk (show okS ks[i] = true from List.all_eq_true.1 HP.out.2.2 _ (List.getElem_mem _))
        have HF := Aside0.mk (diff_snoc x y ks i hlt)
        generalize ks[i] = s at hx HS HF
        obtain ⟨D, hD, hRp⟩ := HX.out.below HB2.out
        have HD := Aside0.mk (And.intro hD hRp)
        obtain ⟨E, hE, hRq⟩ := HY.out.below HB2.out
        have HE := Aside0.mk (And.intro hE hRq)
        clear hD hRp hE hRq
        by_cases hz : valM x s = valM y s
        · go_wp2_with (first
            | (at_lookup; refine wpList_lookup_own_int _ rfl _ _ 51 rfl 9 3 .i64 law9 Tryd.underlying51 Tryd.underlying3 (zero3 _) b1 1000000 D rfl HD.out.1 _ _ rfl (key_ok HS.out) ?_; intro c hat hwc; obtain rfl := SM.look HD.out.2 hat; clear hat hwc; simp only [hz])
            | (at_lookup; refine wpList_lookup_own_int _ rfl _ _ 51 rfl 9 3 .i64 law9 Tryd.underlying51 Tryd.underlying3 (zero3 _) b2 1000000 E rfl HE.out.1 _ _ rfl (key_ok HS.out) ?_; intro c hat hwc; obtain rfl := SM.look HE.out.2 hat; clear hat hwc))
          go_roundg k1
          case measure => omega
          case rel =>
            refine ⟨i + 1, by rw [w_inc_ i (by have := HP.out.2.1; omega)], ⟨by omega, by have := HK.out; omega⟩, ⟨?_⟩, HB2⟩
            rw [HF.out, if_pos hz, List.append_nil]
            exact HO.out
        · go_wp2_with (first
            | (at_lookup; refine wpList_lookup_own_int _ rfl _ _ 51 rfl 9 3 .i64 law9 Tryd.underlying51 Tryd.underlying3 (zero3 _) b1 1000000 D rfl HD.out.1 _ _ rfl (key_ok HS.out) ?_; intro c hat hwc; obtain rfl := SM.look HD.out.2 hat; clear hat hwc)
            | (at_lookup; refine wpList_lookup_own_int _ rfl _ _ 51 rfl 9 3 .i64 law9 Tryd.underlying51 Tryd.underlying3 (zero3 _) b2 1000000 E rfl HE.out.1 _ _ rfl (key_ok HS.out) ?_; intro c hat hwc; obtain rfl := SM.look HE.out.2 hat; clear hat hwc)
            | ((with_reducible refine gate_builtin (b := .append) (xs := #[.tmp 30, .tmp 36]) rfl ?_); at_builtin
               refine Kd.R_append k47 (w0 := w4) w4.heap.size rfl (.tmp 30) (.tmp 36) 29 47 (.agg #[(.string ⟨#[]⟩), (.int .i64 0)]) 24 rfl Tryd.underlying29 HI.out rfl (by decide) (by omega) _ _ (⟨s, valM y s⟩ : S47) [.string s, .int .i64 (valM y s)] (fun _ => True) (fun _ => False) rfl rfl (k47_mkM _ _ _ (⟨s, valM y s⟩ : S47)) (fun _ hk => hk.elim) (fun _ _ => trivial) HO.out HB2.out HB2.out.size ?len ?_;
               (case len => rw [List.length_map]; have h1 := List.length_filter_le (fun s => decide (valM x s ≠ valM y s)) (ks.take i); rw [List.length_take] at h1; have := HP.out.2.1; omega);
               intro v4 w5 ho4 hb4 hg4 hat4
               have n0_ := Aside0.mk ho4; have n1_ := Aside0.mk hb4
               clear ho4 hb4 hg4 hat4 HO HB2
               have HO := n0_; have HB2 := n1_; clear n0_ n1_))
          go_roundg k1
          case measure => omega
          case rel =>
            refine ⟨i + 1, by rw [w_inc_ i (by have := HP.out.2.1; omega)], ⟨by omega, by have := HK.out; omega⟩, ⟨?_⟩, HB2⟩
            rw [HF.out, if_neg hz]
            exact HO.out
    · have hi : i = ks.length := by have := HK.out; omega
      have c1 : decide ((i : Int) < (ks.length : Int)) = false := decide_eq_false (by omega)
      have h1 := HO.out
      rw [hi, List.take_length, ← HKS.out] at h1
      have h2 : Kd.R k47 47 wr w4.heap.size (fun _ => True) u7 (diffM (contsM l0) (contsM l1)) := by rw [HXY.out.1, HXY.out.2]; exact h1
      have HO2 := Aside0.mk h2
      clear h1 h2 HO
      go_wp2
      go_ret
      exact ⟨_, rfl, Kd.R_lower HO2.out HB.out.size, below_then HB.out HB.out.size HB2.out⟩

/-! ### codesearchref01_Strings: function 25 -/
def codesearchref01_Strings.l0 : Nat → List ByteArray → List ByteArray → Int → Option (Bool)
|0,_,_,_ => none
|k + 1,x0,x1,x5 => if x5 < (x0.length : Int) then (if 0 ≤ x5 then (if x5 < (x1.length : Int) then (if (rdOf ByteArray.empty x0 x5).toList = (rdOf ByteArray.empty x1 x5).toList then (codesearchref01_Strings.l0 k x0 x1 (wrap64 (x5 + 1))) else (some false)) else (none)) else (none)) else (some true)
def codesearchref01_Strings.f (k : Nat) (l0 : List ByteArray) (l1 : List ByteArray) : Option (Bool) := if (l0.length : Int) = (l1.length : Int) then (codesearchref01_Strings.l0 k l0 l1 0) else (some false)
theorem codesearchref01_Strings.mono_l : ∀ k, (∀ y0 y1 y2, LeO (codesearchref01_Strings.l0 k y0 y1 y2) (codesearchref01_Strings.l0 (k + 1) y0 y1 y2))
|0 => fun _ _ _ r h => by simp [codesearchref01_Strings.l0] at h
|k + 1 => by
  have ih0 := codesearchref01_Strings.mono_l k
  ·intro y0 y1 y2
   unfold codesearchref01_Strings.l0
   repeat' first
  |(with_reducible exact ih0 _ _ _)
  |(with_reducible exact LeO.refl _)
  |(with_reducible exact LeO.none _)
  |(with_reducible refine LeO.ite ?_ ?_)
  |(with_reducible refine LeO.bind ?_ (fun _ => ?_))
  |exact ih0 _ _ _
  |exact LeO.none _
  |refine LeO.ite ?_ ?_
  |refine LeO.bind ?_ (fun _ => ?_)
theorem codesearchref01_Strings.mono : ∀ a0 a1 k, LeO (codesearchref01_Strings.f k a0 a1) (codesearchref01_Strings.f (k + 1) a0 a1) := by
 intro a0 a1 k
 have ih0 := codesearchref01_Strings.mono_l k
 unfold codesearchref01_Strings.f
 repeat' first
  |(with_reducible exact ih0 _ _ _)
  |(with_reducible exact LeO.refl _)
  |(with_reducible exact LeO.none _)
  |(with_reducible refine LeO.ite ?_ ?_)
  |(with_reducible refine LeO.bind ?_ (fun _ => ?_))
  |exact ih0 _ _ _
  |exact LeO.none _
  |refine LeO.ite ?_ ?_
  |refine LeO.bind ?_ (fun _ => ?_)
set_option maxHeartbeats 4000000 in
set_option maxRecDepth 100000 in
theorem codesearchref01_Strings.calls (k : Nat) (A0 : Option Addr) (c0 : Nat) (l0 : List ByteArray) (A1 : Option Addr) (c1 : Nat) (l1 : List ByteArray) (r : Bool) (w : World) (hr0 : Kd.C Kd.string w A0 l0.length l0) (hc0 : l0.length ≤ c0) (hr1 : Kd.C Kd.string w A1 l1.length l1) (hc1 : l1.length ≤ c1) (h : codesearchref01_Strings.f k l0 l1 = some r) :
  Calls Tryd.prog 25 #[.slice A0 l0.length c0,.slice A1 l1.length c1] w fun e w' => e = .returned (.bool r) ∧ Drawn0 w w' := by
 have HR0 := Aside0.mk hr0
 have HC0 := Aside0.mk hc0
 clear hr0 hc0
 have HR1 := Aside0.mk hr1
 have HC1 := Aside0.mk hc1
 clear hr1 hc1
 have H : (if (l0.length : Int) = (l1.length : Int) then (codesearchref01_Strings.l0 k l0 l1 0) else (some false)) = some r := h
 clear h
 by_cases c3 : (l0.length : Int) = (l1.length : Int)
 ·rw [if_pos c3] at H
  have c3b0 : ((l0.length : Int) == (l1.length : Int)) = true := beq_iff_eq.mpr c3
  have c3b1 : ((l0.length : Int) != (l1.length : Int)) = false := bne_eq_false_iff_eq.mpr c3
  have c3b2 : (l0.length == l1.length) = true := by first|simpa using c3|(simp at c3 ⊢;omega)
  clear c3
  have H' := Aside0.mk H
  clear H
  go_enter Tryd.func25,Tryd.ntmps25
  go_wp2
  repeat (go_quiet (fail);try go_wp2)
  go_loopg [5] k (fun kq v5 w' => ∃ (x5_1 : Int),v5 = .int .i64 x5_1 ∧ Aside0 (codesearchref01_Strings.l0 kq l0 l1 x5_1 = some r) ∧ Aside0 (kq ≤ k) ∧ Drawn0 w w')
  case atStart => exact ⟨(0),(by first|rfl|(simp;done)|(simp [*];done)),H',⟨Nat.le_refl _⟩,by repeat (first|exact Drawn0.refl _|apply Drawn0.step)⟩
  case round =>
   clear H'
   try clear c1
   try clear c2
   try clear p2
   try clear c3
   try clear c3b0
   try clear c3b1
   try clear c3b2
   obtain ⟨x5_1,rfl,HA,HK1,⟨m1,rfl⟩⟩ := hrel
   cases gk with
  |zero => exact absurd HA.out (by simp [codesearchref01_Strings.l0])
  |succ k1 =>
    have H := HA.out
    clear HA
    simp only [codesearchref01_Strings.l0] at H
    by_cases c4 : x5_1 < (l0.length : Int)
    ·rw [if_pos c4] at H
     have c4b0 : decide (x5_1 < (l0.length : Int)) = true := decide_eq_true c4
     clear c4
     by_cases c5 : 0 ≤ x5_1
     ·rw [if_pos c5] at H
      have c5b0 : decide (0 ≤ x5_1) = true := decide_eq_true c5
      clear c5
      by_cases c6 : x5_1 < (l1.length : Int)
      ·rw [if_pos c6] at H
       have c6b0 : decide (x5_1 < (l1.length : Int)) = true := decide_eq_true c6
       clear c6
       by_cases c7 : (rdOf ByteArray.empty l0 x5_1).toList = (rdOf ByteArray.empty l1 x5_1).toList
       ·rw [if_pos c7] at H
        have c7b0 : ((rdOf ByteArray.empty l0 x5_1).toList == (rdOf ByteArray.empty l1 x5_1).toList) = true := beq_iff_eq.mpr c7
        have c7b1 : ((rdOf ByteArray.empty l0 x5_1).toList != (rdOf ByteArray.empty l1 x5_1).toList) = false := bne_eq_false_iff_eq.mpr c7
        clear c7
        have H' := Aside0.mk H
        clear H
        have p151 : 0 ≤ (x5_1 : Int) := of_decide_eq_true (by first|(with_reducible assumption)|assumption)
        have q151 : x5_1 < (l0.length : Int) := of_decide_eq_true (by first|(with_reducible assumption)|assumption)
        obtain ⟨ad151,e151,hx151_0⟩ := Kd.at_string HR0.out x5_1 p151 q151
        cases e151
        replace p151 := eq_true p151
        replace q151 := eq_true q151
        have p152 : 0 ≤ (x5_1 : Int) := of_decide_eq_true (by first|(with_reducible assumption)|assumption)
        have q152 : x5_1 < (l1.length : Int) := of_decide_eq_true (by first|(with_reducible assumption)|assumption)
        obtain ⟨ad152,e152,hx152_0⟩ := Kd.at_string HR1.out x5_1 p152 q152
        cases e152
        replace p152 := eq_true p152
        replace q152 := eq_true q152
        go_wp2
        repeat (go_quiet (fail);try go_wp2)
        go_roundg k1
        case measure => have := HK1.out;omega
        case rel => exact ⟨(wrap64 (x5_1 + 1)),(by first|rfl|(simp;done)|(simp [*];done)),H',⟨by have := HK1.out;omega⟩,by repeat (first|exact Drawn0.refl _|apply Drawn0.step)⟩
       ·rw [if_neg c7] at H
        have c7b0 : ((rdOf ByteArray.empty l0 x5_1).toList == (rdOf ByteArray.empty l1 x5_1).toList) = false := beq_eq_false_iff_ne.mpr c7
        have c7b1 : ((rdOf ByteArray.empty l0 x5_1).toList != (rdOf ByteArray.empty l1 x5_1).toList) = true := bne_iff_ne.mpr c7
        obtain rfl := Option.some.inj H
        have p151 : 0 ≤ (x5_1 : Int) := of_decide_eq_true (by first|(with_reducible assumption)|assumption)
        have q151 : x5_1 < (l0.length : Int) := of_decide_eq_true (by first|(with_reducible assumption)|assumption)
        obtain ⟨ad151,e151,hx151_0⟩ := Kd.at_string HR0.out x5_1 p151 q151
        cases e151
        replace p151 := eq_true p151
        replace q151 := eq_true q151
        have p152 : 0 ≤ (x5_1 : Int) := of_decide_eq_true (by first|(with_reducible assumption)|assumption)
        have q152 : x5_1 < (l1.length : Int) := of_decide_eq_true (by first|(with_reducible assumption)|assumption)
        obtain ⟨ad152,e152,hx152_0⟩ := Kd.at_string HR1.out x5_1 p152 q152
        cases e152
        replace p152 := eq_true p152
        replace q152 := eq_true q152
        go_wp2
        repeat (go_quiet (fail);try go_wp2)
        go_ret
        exact ⟨by first|rfl|(simp;done)|(simp [*];done),by repeat (first|exact Drawn0.refl _|apply Drawn0.step)⟩
      ·rw [if_neg c6] at H
       exact absurd H (by simp)
     ·rw [if_neg c5] at H
      exact absurd H (by simp)
    ·rw [if_neg c4] at H
     have c4b0 : decide (x5_1 < (l0.length : Int)) = false := decide_eq_false c4
     clear c4
     obtain rfl := Option.some.inj H
     go_wp2
     repeat (go_quiet (fail);try go_wp2)
     go_ret
     exact ⟨by first|rfl|(simp;done)|(simp [*];done),by repeat (first|exact Drawn0.refl _|apply Drawn0.step)⟩
 ·rw [if_neg c3] at H
  have c3b0 : ((l0.length : Int) == (l1.length : Int)) = false := beq_eq_false_iff_ne.mpr c3
  have c3b1 : ((l0.length : Int) != (l1.length : Int)) = true := bne_iff_ne.mpr c3
  have c3b2 : (l0.length == l1.length) = false := by first|simpa using c3|(simp at c3 ⊢;omega)
  obtain rfl := Option.some.inj H
  go_enter Tryd.func25,Tryd.ntmps25
  go_wp2
  repeat (go_quiet (fail);try go_wp2)
  go_ret
  exact ⟨by first|rfl|(simp;done)|(simp [*];done),by repeat (first|exact Drawn0.refl _|apply Drawn0.step)⟩

end Go.Proofs.YtpnhamfodjfacaaDoor.M
