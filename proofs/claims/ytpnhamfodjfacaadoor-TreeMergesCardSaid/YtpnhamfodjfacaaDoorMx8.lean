-- Written by hp.py, a program of this session, over the kit's print of the translation. Not trusted: Lean checks it.
import Derived.Test.YtpnhamfodjfacaaDoorMx0
import Derived.Test.YtpnhamfodjfacaaDoorMx5
import Derived.Test.YtpnhamfodjfacaaDoorMx6
import Derived.Test.YtpnhamfodjfacaaDoorMx7
namespace Go.Proofs.YtpnhamfodjfacaaDoor.M
open Go.RowKit Go.Proofs.YtpnhamfodjfacaaDoorW.PrintWords Go.Proofs.YtpnhamfodjfacaaDoorW.PrintLast Go.Proofs.YtpnhamfodjfacaaDoorW.PrintMore
attribute [local go_sem] max2_int min2_int max_two min_two max_three min_three max_four min_four   -- for this text's walks alone
set_option linter.unusedVariables false
set_option linter.unusedSimpArgs false

/-! ### tree_Names: function 26 (by hand) -/
open Go.Maps
/-- What is left of a path behind the directory and its slash; none: the path is too short. -/
def restM (d s : ByteArray) : Option ByteArray := if d.toList = [] then some s else if 0 ≤ wrap64 ((d.size : Int) + 1) ∧ wrap64 ((d.size : Int) + 1) ≤ (s.size : Int) then some (s.extract (wrap64 ((d.size : Int) + 1)).toNat s.size) else none
def namesM (d : ByteArray) : MP → List S45 → Option MP
  | m, [] => some m
  | m, f :: fs => (restM d f.f0).bind fun s => (strings_Cut.f s ⟨#[47]⟩).bind fun r => if okS r.1 = true ∧ okI (wrap64 (valM m r.1 + 1)) = true then namesM d (mput m r.1 (wrap64 (valM m r.1 + 1))) fs else none
def tree_Names.f (k : Nat) (l0 : List S45) (a1 : ByteArray) : Option (List ByteArray) := (tree_Under.f k l0 a1).bind fun u => if u.length ≤ 100000 then (namesM a1 [] u).bind fun m => some (pathsM [m]) else none
theorem tree_Names.mono : ∀ a0 a1 k, LeO (tree_Names.f k a0 a1) (tree_Names.f (k + 1) a0 a1) := by
  intro a0 a1 k
  unfold tree_Names.f
  exact LeO.bind (tree_Under.mono _ _ _) (fun _ => LeO.refl _)
set_option maxHeartbeats 8000000 in
set_option maxRecDepth 100000 in
theorem tree_Names.calls (k : Nat) (A0 : Option Addr) (c0 : Nat) (l0 : List (S45)) (a1 : ByteArray) (r : List ByteArray) (w : World) (hr0 : Kd.C k45 w A0 l0.length l0) (hc0 : l0.length ≤ c0) (h : tree_Names.f k l0 a1 = some r) :
    Calls Tryd.prog 26 #[.slice A0 l0.length c0, .string a1] w fun e w' => ∃ v0_ : Value, e = .returned (v0_) ∧ Kd.R Kd.string 9 w' w.heap.size (fun _ => True) v0_ r ∧ Below w.heap.size w w' := by
  have hu45 := Tryd.underlying45
  unfold tree_Names.f at h
  obtain ⟨us, hus, h⟩ := Option.bind_eq_some_iff.mp h
  split at h
  case isFalse => cases h
  rename_i hlen
  obtain ⟨mm, hmm0, h⟩ := Option.bind_eq_some_iff.mp h
  obtain rfl := Option.some.inj h
  clear h
  have HP := Aside0.mk hlen
  have HN0 := Aside0.mk hmm0
  have HUS := Aside0.mk hus
  have HA := Aside0.mk (And.intro hr0 hc0)
  clear hlen hmm0 hr0 hc0 hus
  have hmm := @run_makeMap Tryd.prog
  go_enter Tryd.func26, Tryd.ntmps26
  go_wp2_with fail
  go_at_call 23
  generalize hwm : w.alloc (.map #[] 0) = wm
  have hsm : wm.heap.size = w.heap.size + 1 := by rw [← hwm]; simp
  have hbm : Below w.heap.size w wm := by rw [← hwm]; exact below_alloc (Below.refl _ _) _
  have hMM : SM Tryd.prog 9 3 wm w.heap.size 0 [] := by rw [← hwm]; exact SM.made w
  clear hwm
  refine (tree_Under.calls k A0 c0 l0 a1 us wm (Kd.C_below HA.out.1 hbm) HA.out.2 HUS.out).mono ?_
  rintro e w5 ⟨v, rfl, hR, hB⟩
  obtain ⟨A, cA, rfl⟩ := Kd.R_slice hR
  have HM := Aside0.mk (hMM.below hB)
  have HB := Aside0.mk (below_then hbm hbm.size hB)
  have HU := Aside0.mk (Kd.R_mono (Kd.R_bound hR) (ok' := fun k => wm.heap.size ≤ k ∧ k < w5.heap.size) (fun k hk => ⟨hk.2.1, hk.2.2.1⟩))
  generalize hbm0 : w.heap.size = bm at HM
  have HBM := Aside0.mk (show w.heap.size ≤ bm ∧ bm < wm.heap.size ∧ wm.heap.size ≤ w5.heap.size from ⟨by omega, by omega, hB.size⟩)
  clear hsm hbm hMM hR hB
  generalize he4 : wm.heap.size = e4 at HU HBM
  generalize he5 : w5.heap.size = e5 at HU HBM
  have HB5 := Aside0.mk (Nat.le_of_eq he5.symm)
  clear he4 he5 hbm0
  go_wp2
  go_loopg [17] us.length (fun kq v17 w' => ∃ (i : Nat) (m : MP), v17 = .int .i64 (i : Int) ∧ Aside0 (i ≤ us.length ∧ us.length - i ≤ kq) ∧ Aside0 (SM Tryd.prog 9 3 w' bm i m) ∧ Aside0 (namesM a1 m (us.drop i) = some mm) ∧ Aside0 (Kd.R k45 45 w' e4 (fun k => e4 ≤ k ∧ k < e5) (.slice A us.length cA) us) ∧ Aside0 (Below w.heap.size w w') ∧ Aside0 (e5 ≤ w'.heap.size))
  case atStart => exact ⟨0, [], rfl, ⟨Nat.zero_le _, by omega⟩, HM, HN0, HU, HB, HB5⟩
  case round =>
    clear HM HU HB HB5
    obtain ⟨i, m, rfl, HK, HM, HNM, HU, HB2, HB5⟩ := hrel
    by_cases hlt : i < us.length
    · cases gk with
      | zero => exfalso; have := HK.out; omega
      | succ k1 =>
        have c1 : decide ((i : Int) < (us.length : Int)) = true := decide_eq_true (by omega)
        obtain ⟨ad, e, hx0, hx1⟩ := at_T45 (Kd.R_reads' HU.out).2.2 (i : Int) (by omega) (by omega)
        subst e
        rw [rd45_nat us i hlt, Int.toNat_natCast] at hx0 hx1
        have p : (0 ≤ (i : Int)) = True := eq_true (by omega)
        have q : ((i : Int) < (us.length : Int)) = True := eq_true (by omega)
        have h1 := HNM.out
        rw [List.drop_eq_getElem_cons hlt, namesM] at h1
        generalize us[i].f0 = s at hx0 hx1 h1
        generalize us[i].f1 = x at hx0 hx1
        obtain ⟨rest, hrest, h1⟩ := Option.bind_eq_some_iff.mp h1
        obtain ⟨⟨n, r2, r3⟩, hcut, h1⟩ := Option.bind_eq_some_iff.mp h1
        obtain ⟨j2, hj2⟩ : ∃ j_ : Int, wrap64 (valM m n + 1) = j_ := ⟨_, rfl⟩
        simp only [hj2] at h1
        split at h1
        case isFalse => cases h1
        rename_i hn
        have hj2w : (IntKind.i64.wrap (valM m n + 1)) = j2 := (i64_w _).trans hj2
        have HN := Aside0.mk hn
        have HNX := Aside0.mk h1
        have HC := Aside0.mk hcut
        clear hn h1 hcut HNM
        unfold restM at hrest
        by_cases hd : a1.toList = []
        · rw [if_pos hd] at hrest
          obtain rfl := Option.some.inj hrest
          clear hrest
          have g0 : (a1.toList == []) = true := beq_iff_eq.mpr hd
          have g1 : (a1.toList != []) = false := bne_eq_false_iff_eq.mpr hd
          go_wp2_with (first
            | ((with_reducible refine gate_dst (N := 7) rfl ?_); refine box_event ?hg (N := 7) ?hd (cs := #[.string (⟨#[]⟩ : ByteArray), .int .i64 0]) (t := 45) ?hr ?_; (case hd => rfl); (case hg => rfl); (case hr => first | (go_simp; done) | (go_simp; rfl)); intro gb hg w9 hbox hb
               have n0_ := Aside0.mk (HM.out.below hb); have n1_ := Aside0.mk (below_step HB2.out hb); have n2_ := Aside0.mk (Kd.R_below HU.out hb); have n3_ := Aside0.mk (by rw [hg]; exact HB5.out : e5 ≤ gb)
               have n4_ := Aside0.mk (Nat.le_trans HB5.out hb.size)
               have hcz0 : w9.cell? ⟨gb, 0, none⟩ = some (.string (⟨#[]⟩ : ByteArray)) := (blk_cell hbox 0).trans rfl
               have hcz1 : w9.cell? ⟨gb, 1, none⟩ = some (.int .i64 0) := (blk_cell hbox 1).trans rfl
               have hfz0 := blk_frozen hbox 0
               have hfz1 := blk_frozen hbox 1
               clear HM HB2 HU hb hbox hg HB5
               have HM := n0_; have HB2 := n1_; have HU := n2_; have GG := n3_; have HB5 := n4_; clear n0_ n1_ n2_ n3_ n4_))
          go_at_call 42
          have hW1 := ((HM.out.far (a := ⟨gb, 0, none⟩) (by have := GG.out; have := HBM.out; show bm ≠ gb; omega) (.string s)).far (a := ⟨gb, 1, none⟩) (by have := GG.out; have := HBM.out; show bm ≠ gb; omega) (.int .i64 x))
          have hW2 := (HB2.out.setCell (p := ⟨gb, 0, none⟩) (by have := GG.out; have := HBM.out; show w.heap.size ≤ gb; omega) (.string s)).setCell (p := ⟨gb, 1, none⟩) (by have := GG.out; have := HBM.out; show w.heap.size ≤ gb; omega) (.int .i64 x)
          have hW3 := Kd.R_far (Kd.R_far HU.out (p := ⟨gb, 0, none⟩) (fun k hk => by have := GG.out; show k ≠ gb; omega) (.string s)) (p := ⟨gb, 1, none⟩) (fun k hk => by have := GG.out; show k ≠ gb; omega) (.int .i64 x)
          have hW5 := (show e5 ≤ ((w9.setCell ⟨gb, 0, none⟩ (.string s)).setCell ⟨gb, 1, none⟩ (.int .i64 x)).heap.size from by have := HB5.out; simpa [World.setCell] using this)
          have hcut := Aside0.mk (strings_Cut.calls s ⟨#[47]⟩ n r2 r3 ((w9.setCell ⟨gb, 0, none⟩ (.string s)).setCell ⟨gb, 1, none⟩ (.int .i64 x)) HC.out)
          generalize (w9.setCell ⟨gb, 0, none⟩ (.string s)).setCell ⟨gb, 1, none⟩ (.int .i64 x) = w10 at hW1 hW2 hW3 hW5 hcut ⊢
          refine hcut.out.mono ?_
          rintro e w11 ⟨rfl, hd⟩
          have hb := hd.below
          have n0_ := Aside0.mk (hW1.below hb); have n1_ := Aside0.mk (below_then hW2 hW2.size hb); have n2_ := Aside0.mk (Kd.R_below hW3 hb); have n3_ := Aside0.mk (Nat.le_trans hW5 hb.size)
          clear HM HB2 HU HB5 hW1 hW2 hW3 hW5 hd hb hcut GG
          have HM := n0_; have HB2 := n1_; have HU := n2_; have HB5 := n3_; clear n0_ n1_ n2_ n3_
          go_wp2_with (first
            | (at_lookup; obtain ⟨D, hD, hRp⟩ := HM.out; refine wpList_lookup_own_int _ rfl _ _ 51 rfl 9 3 .i64 law9 Tryd.underlying51 Tryd.underlying3 (zero3 _) bm i D rfl hD _ _ rfl (key_ok HN.out.1) ?_; intro c hat hwc; obtain rfl := SM.look hRp hat; clear hat hwc hD hRp)
            | (at_mapUpdate
               obtain ⟨D, hD, hRp⟩ := HM.out
               refine wpList_mapUpdate_own _ rfl _ _ _ 51 rfl 9 3 law9 Tryd.underlying51 _ bm i D rfl hD (by have := HK.out; have := HP.out; unfold maxLen; omega) _ _ _ rfl rfl (key_ok HN.out.1) _ [] (val_ok HN.out.2) ?_
               intro w12 hown12 hgrow12
               have n0_ := Aside0.mk (show SM Tryd.prog 9 3 w12 bm (i + 1) (mput m n j2) from ⟨_, hown12, hRp.put hD.isMap n j2⟩)
               have n1_ := Aside0.mk (HB2.out.grown hgrow12 HB2.out.size (fun k hk => by cases hk; exact HBM.out.1))
               have n2_ := Aside0.mk (Kd.R_grown HU.out hgrow12 (fun k hk e => by injection e with e; have := HBM.out; omega))
               have n3_ := Aside0.mk (Nat.le_trans HB5.out hgrow12.size)
               clear HM HB2 HU HB5 hD hRp hown12 hgrow12
               have HM := n0_; have HB2 := n1_; have HU := n2_; have HB5 := n3_; clear n0_ n1_ n2_ n3_))
          go_roundg k1
          case measure => omega
          case rel => exact ⟨i + 1, mput m n j2, by rw [w_inc_ i (by have := HP.out; omega)], ⟨by omega, by have := HK.out; omega⟩, HM, HNX, HU, HB2, HB5⟩
        · rw [if_neg hd] at hrest
          have g0 : (a1.toList == []) = false := beq_eq_false_iff_ne.mpr hd
          have g1 : (a1.toList != []) = true := bne_iff_ne.mpr hd
          obtain ⟨j1, hj1⟩ : ∃ j_ : Int, wrap64 ((a1.size : Int) + 1) = j_ := ⟨_, rfl⟩
          have hj1w : (IntKind.i64.wrap ((a1.size : Int) + 1)) = j1 := (i64_w _).trans hj1
          simp only [hj1] at hrest
          split at hrest
          case isFalse => cases hrest
          rename_i hjj
          obtain rfl := Option.some.inj hrest
          clear hrest
          have g2 := eq_true hjj.1
          have g3 := eq_true hjj.2
          have g4 : decide (0 ≤ j1) = true := decide_eq_true hjj.1
          have g5 : decide (j1 ≤ (s.size : Int)) = true := decide_eq_true hjj.2
          clear hjj
          go_wp2_with (first
            | ((with_reducible refine gate_dst (N := 7) rfl ?_); refine box_event ?hg (N := 7) ?hd (cs := #[.string (⟨#[]⟩ : ByteArray), .int .i64 0]) (t := 45) ?hr ?_; (case hd => rfl); (case hg => rfl); (case hr => first | (go_simp; done) | (go_simp; rfl)); intro gb hg w9 hbox hb
               have n0_ := Aside0.mk (HM.out.below hb); have n1_ := Aside0.mk (below_step HB2.out hb); have n2_ := Aside0.mk (Kd.R_below HU.out hb); have n3_ := Aside0.mk (by rw [hg]; exact HB5.out : e5 ≤ gb)
               have n4_ := Aside0.mk (Nat.le_trans HB5.out hb.size)
               have hcz0 : w9.cell? ⟨gb, 0, none⟩ = some (.string (⟨#[]⟩ : ByteArray)) := (blk_cell hbox 0).trans rfl
               have hcz1 : w9.cell? ⟨gb, 1, none⟩ = some (.int .i64 0) := (blk_cell hbox 1).trans rfl
               have hfz0 := blk_frozen hbox 0
               have hfz1 := blk_frozen hbox 1
               clear HM HB2 HU hb hbox hg HB5
               have HM := n0_; have HB2 := n1_; have HU := n2_; have GG := n3_; have HB5 := n4_; clear n0_ n1_ n2_ n3_ n4_))
          go_at_call 42
          have hW1 := ((HM.out.far (a := ⟨gb, 0, none⟩) (by have := GG.out; have := HBM.out; show bm ≠ gb; omega) (.string s)).far (a := ⟨gb, 1, none⟩) (by have := GG.out; have := HBM.out; show bm ≠ gb; omega) (.int .i64 x))
          have hW2 := (HB2.out.setCell (p := ⟨gb, 0, none⟩) (by have := GG.out; have := HBM.out; show w.heap.size ≤ gb; omega) (.string s)).setCell (p := ⟨gb, 1, none⟩) (by have := GG.out; have := HBM.out; show w.heap.size ≤ gb; omega) (.int .i64 x)
          have hW3 := Kd.R_far (Kd.R_far HU.out (p := ⟨gb, 0, none⟩) (fun k hk => by have := GG.out; show k ≠ gb; omega) (.string s)) (p := ⟨gb, 1, none⟩) (fun k hk => by have := GG.out; show k ≠ gb; omega) (.int .i64 x)
          have hW5 := (show e5 ≤ ((w9.setCell ⟨gb, 0, none⟩ (.string s)).setCell ⟨gb, 1, none⟩ (.int .i64 x)).heap.size from by have := HB5.out; simpa [World.setCell] using this)
          have hcut := Aside0.mk (strings_Cut.calls (s.extract j1.toNat s.size) ⟨#[47]⟩ n r2 r3 ((w9.setCell ⟨gb, 0, none⟩ (.string s)).setCell ⟨gb, 1, none⟩ (.int .i64 x)) HC.out)
          generalize (w9.setCell ⟨gb, 0, none⟩ (.string s)).setCell ⟨gb, 1, none⟩ (.int .i64 x) = w10 at hW1 hW2 hW3 hW5 hcut ⊢
          refine hcut.out.mono ?_
          rintro e w11 ⟨rfl, hd⟩
          have hb := hd.below
          have n0_ := Aside0.mk (hW1.below hb); have n1_ := Aside0.mk (below_then hW2 hW2.size hb); have n2_ := Aside0.mk (Kd.R_below hW3 hb); have n3_ := Aside0.mk (Nat.le_trans hW5 hb.size)
          clear HM HB2 HU HB5 hW1 hW2 hW3 hW5 hd hb hcut GG
          have HM := n0_; have HB2 := n1_; have HU := n2_; have HB5 := n3_; clear n0_ n1_ n2_ n3_
          go_wp2_with (first
            | (at_lookup; obtain ⟨D, hD, hRp⟩ := HM.out; refine wpList_lookup_own_int _ rfl _ _ 51 rfl 9 3 .i64 law9 Tryd.underlying51 Tryd.underlying3 (zero3 _) bm i D rfl hD _ _ rfl (key_ok HN.out.1) ?_; intro c hat hwc; obtain rfl := SM.look hRp hat; clear hat hwc hD hRp)
            | (at_mapUpdate
               obtain ⟨D, hD, hRp⟩ := HM.out
               refine wpList_mapUpdate_own _ rfl _ _ _ 51 rfl 9 3 law9 Tryd.underlying51 _ bm i D rfl hD (by have := HK.out; have := HP.out; unfold maxLen; omega) _ _ _ rfl rfl (key_ok HN.out.1) _ [] (val_ok HN.out.2) ?_
               intro w12 hown12 hgrow12
               have n0_ := Aside0.mk (show SM Tryd.prog 9 3 w12 bm (i + 1) (mput m n j2) from ⟨_, hown12, hRp.put hD.isMap n j2⟩)
               have n1_ := Aside0.mk (HB2.out.grown hgrow12 HB2.out.size (fun k hk => by cases hk; exact HBM.out.1))
               have n2_ := Aside0.mk (Kd.R_grown HU.out hgrow12 (fun k hk e => by injection e with e; have := HBM.out; omega))
               have n3_ := Aside0.mk (Nat.le_trans HB5.out hgrow12.size)
               clear HM HB2 HU HB5 hD hRp hown12 hgrow12
               have HM := n0_; have HB2 := n1_; have HU := n2_; have HB5 := n3_; clear n0_ n1_ n2_ n3_))
          go_roundg k1
          case measure => omega
          case rel => exact ⟨i + 1, mput m n j2, by rw [w_inc_ i (by have := HP.out; omega)], ⟨by omega, by have := HK.out; omega⟩, HM, HNX, HU, HB2, HB5⟩
    · have hi : i = us.length := by have := HK.out; omega
      have c1 : decide ((i : Int) < (us.length : Int)) = false := decide_eq_false (by omega)
      have h1 := HNM.out
      rw [List.drop_of_length_le (by omega), namesM] at h1
      obtain rfl := Option.some.inj h1
      clear h1 HNM HU
      go_wp2_with fail
      go_at_call 40
      generalize hw1 : wr.alloc _ = w1
      have hs1 : w1.heap.size = wr.heap.size + 1 := by rw [← hw1]; simp
      have hb1 : Below wr.heap.size wr w1 := by rw [← hw1]; exact below_alloc (Below.refl _ _) _
      have hat : MapsAt w1 wr.heap.size [(bm, m)] := by
        intro j hj
        have hj0 : j = 0 := by simpa using hj
        subst hj0
        exact ⟨by rw [← hw1]; simp, (HM.out.mono (by have := HP.out; omega)).below hb1⟩
      refine (tree_paths.calls_ wr.heap.size 1 [(bm, m)] w1 (by omega) hat (by simp)).mono ?_
      rintro e w2 ⟨v, rfl, hR, hB⟩
      clear hw1 hat
      have hB2 := below_then hb1 hb1.size hB
      have hR2 := Kd.R_lower hR (show w.heap.size ≤ w1.heap.size by have := HB2.out.size; omega)
      simp only [List.map_cons, List.map_nil] at hR2
      have HR2 := Aside0.mk hR2
      have HB3 := Aside0.mk (below_then HB2.out HB2.out.size hB2)
      clear hs1 hb1 hR hB hB2 hR2 HB2
      go_wp2
      go_ret
      exact ⟨_, rfl, HR2.out, HB3.out⟩

/-! ### tree_Merge: function 28 (by hand) -/
open Go.Maps
theorem Rep.congr {D : DataW Unit} {m m' : MP} (h : Rep D m) (he : ∀ s, mget m s = mget m' s) : Rep D m' := fun s => by rw [← he s]; exact h s
theorem SM.congr {P : Program} {ks es : TypeId} {w : World} {b n : Nat} {m m' : MP} (h : SM P ks es w b n m) (he : ∀ s, mget m s = mget m' s) : SM P ks es w b n m' := let ⟨D, h1, h2⟩ := h; ⟨D, h1, h2.congr he⟩
def pickM (x y z : MP) (s : ByteArray) : Int := if valM y s = valM x s then valM z s else valM y s
def mergedM (x y z : MP) (ks : List ByteArray) : MP := (ks.map fun s => (s, pickM x y z s)).reverse
def clashM (x y z : MP) (s : ByteArray) : Bool := decide (valM x s ≠ valM y s) && (decide (valM x s ≠ valM z s) && decide (valM y s ≠ valM z s))
theorem merged_snoc (x y z : MP) (ks : List ByteArray) (i : Nat) (h : i < ks.length) : mergedM x y z (ks.take (i + 1)) = mput (mergedM x y z (ks.take i)) ks[i] (pickM x y z ks[i]) := by
  rw [List.take_succ_eq_append_getElem h, mergedM, List.map_append, List.reverse_append]; rfl
theorem clash_snoc (x y z : MP) (ks : List ByteArray) (i : Nat) (h : i < ks.length) : (ks.take (i + 1)).filter (clashM x y z) = (ks.take i).filter (clashM x y z) ++ (if clashM x y z ks[i] = true then [ks[i]] else []) := by
  rw [List.take_succ_eq_append_getElem h, List.filter_append]
  congr 1
  by_cases hz : clashM x y z ks[i] = true
  · rw [if_pos hz, List.filter_cons_of_pos hz]; rfl
  · rw [if_neg hz, List.filter_cons_of_neg hz]; rfl
theorem okI_conts {l : List S45} (h : okFs l = true) (s : ByteArray) : okI (valM (contsM l) s) = true := by
  have key : ∀ (l : List S45) (m : MP), okFs l = true → okI (valM m s) = true → okI (valM (l.foldl (fun m x => mput m x.f0 x.f1) m) s) = true := by
    intro l
    induction l with
    | nil => intro m _ h2; exact h2
    | cons a l ih =>
      intro m h1 h2
      rw [okFs, List.all_cons, Bool.and_eq_true, Bool.and_eq_true] at h1
      rw [List.foldl_cons]
      refine ih _ h1.2 ?_
      unfold valM
      rw [mget_put]
      by_cases e : a.f0 = s
      · rw [if_pos e]; exact h1.1.2
      · rw [if_neg e]; exact h2
  exact key l [] h (show okI 0 = true by decide)
theorem mget_merged (x y z : MP) (ks : List ByteArray) (s : ByteArray) (h : (mget (mergedM x y z ks) s).isSome = true) : s ∈ ks := by
  rw [mget_mem, mergedM, List.map_reverse, List.mem_reverse, List.map_map] at h
  obtain ⟨t, ht, rfl⟩ := List.mem_map.1 h
  exact ht
/-- All keys of a map are fit (for Merge). -/
def okM_ (m : MP) : Prop := ∀ s, (mget m s).isSome = true → okS s = true
theorem okM_paths {m : MP} (h : okM_ m) : (pathsM [m]).all okS = true := by
  rw [List.all_eq_true]
  intro s hs
  obtain ⟨m', hm, h2⟩ := (mem_pathsM _ s).1 hs
  rw [List.mem_singleton] at hm
  subst hm
  exact h s h2
def tree_Merge.f (l0 l1 l2 : List S45) : Option (List S45 × List ByteArray) := if okFs l0 = true ∧ okFs l1 = true ∧ okFs l2 = true ∧ l0.length ≤ 100000 ∧ l1.length ≤ 100000 ∧ l2.length ≤ 100000 then some (filesM (mergedM (contsM l0) (contsM l1) (contsM l2) (pathsM [contsM l0, contsM l1, contsM l2])), (pathsM [contsM l0, contsM l1, contsM l2]).filter (clashM (contsM l0) (contsM l1) (contsM l2))) else none
set_option maxHeartbeats 8000000 in
set_option maxRecDepth 100000 in
theorem tree_Merge.calls (A0 : Option Addr) (c0 : Nat) (l0 : List (S45)) (A1 : Option Addr) (c1 : Nat) (l1 : List (S45)) (A2 : Option Addr) (c2 : Nat) (l2 : List (S45)) (r1 : List (S45)) (r2 : List ByteArray) (w : World) (hr0 : Kd.C k45 w A0 l0.length l0) (hc0 : l0.length ≤ c0) (hr1 : Kd.C k45 w A1 l1.length l1) (hc1 : l1.length ≤ c1) (hr2 : Kd.C k45 w A2 l2.length l2) (hc2 : l2.length ≤ c2) (h : tree_Merge.f l0 l1 l2 = some (r1, r2)) :
    Calls Tryd.prog 28 #[.slice A0 l0.length c0, .slice A1 l1.length c1, .slice A2 l2.length c2] w fun e w' => ∃ v0_ v1_ : Value, e = .returned (.tuple #[v0_, v1_]) ∧ Kd.R k45 45 w' w.heap.size (fun _ => True) v0_ r1 ∧ Kd.R Kd.string 9 w' w.heap.size (fun _ => True) v1_ r2 ∧ Below w.heap.size w w' := by
  unfold tree_Merge.f at h
  split at h
  case isFalse => cases h
  rename_i hh
  obtain ⟨rfl, rfl⟩ := Prod.mk.inj (Option.some.inj h)
  have info9 : (Tryd.prog.info? 9).map (fun i => (i.zero, i.size, i.bytes)) = some (some (.string ⟨#[]⟩), 1, 16) := by kernel_rfl
  have HI := Aside0.mk info9
  have HH := Aside0.mk hh
  have hca := Aside0.mk (tree_contents.calls_ A0 c0 l0 w hr0 hc0 hh.1 (by omega))
  have HR1 := Aside0.mk (And.intro hr1 hc1)
  have HR2 := Aside0.mk (And.intro hr2 hc2)
  clear h hh hr0 hc0 hr1 hc1 hr2 hc2 info9
  have hmm := @run_makeMap Tryd.prog
  go_enter Tryd.func28, Tryd.ntmps28
  go_wp2_with fail
  go_at_call 36
  refine hca.out.mono ?_
  rintro e w1 ⟨b1, rfl, hb1, hm1, hB1⟩
  have hcb := Aside0.mk (tree_contents.calls_ A1 c1 l1 w1 (Kd.C_below HR1.out.1 hB1) HR1.out.2 HH.out.2.1 (by have := HH.out; omega))
  have HM1 := Aside0.mk (hm1.mono (n' := 1000000) (by have := HH.out; omega))
  have HB1 := Aside0.mk hB1
  clear hca hm1 hB1
  go_wp2_with fail
  go_at_call 36
  refine hcb.out.mono ?_
  rintro e w2 ⟨b2, rfl, hb2, hm2, hB2⟩
  have HMx := Aside0.mk (HM1.out.below hB2)
  have HMy := Aside0.mk (hm2.mono (n' := 1000000) (by have := HH.out; omega))
  have HB2 := Aside0.mk (below_then HB1.out HB1.out.size hB2)
  have hcc := Aside0.mk (tree_contents.calls_ A2 c2 l2 w2 (Kd.C_below HR2.out.1 HB2.out) HR2.out.2 HH.out.2.2.1 (by have := HH.out; omega))
  clear hcb hm2 hB2 HM1 HB1 hb1 hb2
  go_wp2_with fail
  go_at_call 36
  refine hcc.out.mono ?_
  rintro e w3 ⟨b3, rfl, hb3, hm3, hB3⟩
  have hMX := HMx.out.below hB3
  have hMY := HMy.out.below hB3
  have hMZ := hm3.mono (n' := 1000000) (by have := HH.out; omega)
  have HB3 := Aside0.mk (below_then HB2.out HB2.out.size hB3)
  have HM3 := Aside0.mk (And.intro hMX (And.intro hMY hMZ))
  clear hcc hm3 hB3 hb3 HMx HMy HB2 hMX hMY hMZ
  go_wp2_with fail
  go_at_call 40
  generalize hwm : w3.alloc (.map #[] 0) = wm
  have hsm : wm.heap.size = w3.heap.size + 1 := by rw [← hwm]; simp
  have hbm : Below w3.heap.size w3 wm := by rw [← hwm]; exact below_alloc (Below.refl _ _) _
  have hMM : SM Tryd.prog 9 3 wm w3.heap.size 0 [] := by rw [← hwm]; exact SM.made w3
  clear hwm
  generalize hw4 : wm.alloc _ = w4
  have hs4 : w4.heap.size = wm.heap.size + 1 := by rw [← hw4]; simp
  have hb4 : Below wm.heap.size wm w4 := by rw [← hw4]; exact below_alloc (Below.refl _ _) _
  have hat : MapsAt w4 (w3.heap.size + 1) [(b1, contsM l0), (b2, contsM l1), (b3, contsM l2)] := by
    intro j hj
    have hj0 : j = 0 ∨ j = 1 ∨ j = 2 := by simp at hj; omega
    rcases hj0 with rfl | rfl | rfl
    · exact ⟨by rw [← hw4, ← hsm]; simp, (HM3.out.1.below hbm).below hb4⟩
    · exact ⟨by rw [← hw4, ← hsm]; simp, (HM3.out.2.1.below hbm).below hb4⟩
    · exact ⟨by rw [← hw4, ← hsm]; simp, (HM3.out.2.2.below hbm).below hb4⟩
  rw [← hsm] at hat ⊢
  refine (tree_paths.calls_ wm.heap.size 3 [(b1, contsM l0), (b2, contsM l1), (b3, contsM l2)] w4 (by omega) hat (by simp)).mono ?_
  rintro e w5 ⟨v, rfl, hR, hB⟩
  clear hw4 hat
  have hBm5 := below_then hb4 hb4.size hB
  have hB35 := below_then hbm hbm.size hBm5
  obtain ⟨A, cA, rfl⟩ := Kd.R_slice hR
  simp only [List.map_cons, List.map_nil] at hR ⊢
  have hpl := pathsM_len [contsM l0, contsM l1, contsM l2] 100000 (by intro m hm; simp at hm; rcases hm with rfl | rfl | rfl <;> rw [contsM_len] <;> have := HH.out <;> omega)
  have hok : (pathsM [contsM l0, contsM l1, contsM l2]).all okS = true := okS_paths (ls := [l0, l1, l2]) (by intro l hl; simp at hl; rcases hl with rfl | rfl | rfl; exact HH.out.1; exact HH.out.2.1; exact HH.out.2.2.1)
  have HKS0 := Aside0.mk hok
  have HX := Aside0.mk (HM3.out.1.below hB35)
  have HY := Aside0.mk (HM3.out.2.1.below hB35)
  have HZ := Aside0.mk (HM3.out.2.2.below hB35)
  have HM := Aside0.mk (hMM.below hBm5)
  have HB := Aside0.mk (below_then HB3.out HB3.out.size hB35)
  have HKR := Aside0.mk (Kd.R_mono (Kd.R_bound hR) (ok' := fun k => w4.heap.size ≤ k ∧ k < w5.heap.size) (fun k hk => ⟨hk.2.1, hk.2.2.1⟩))
  have HBM := Aside0.mk (show w.heap.size ≤ w3.heap.size ∧ b1 < w3.heap.size ∧ b2 < w3.heap.size ∧ b3 < w3.heap.size ∧ w3.heap.size < w4.heap.size ∧ w4.heap.size ≤ w5.heap.size from ⟨HB3.out.size, HM3.out.1.lt, HM3.out.2.1.lt, HM3.out.2.2.lt, by omega, hB.size⟩)
  have hnl : (pathsM [contsM l0, contsM l1, contsM l2]).length ≤ 300000 := by simpa using hpl
  have HP := Aside0.mk hnl
  clear hs4 hsm hbm hb4 hR hB hBm5 hB35 hpl hnl hok HM3 HB3 hMM
  generalize hks : pathsM [contsM l0, contsM l1, contsM l2] = ks at HKR HKS0 HP
  have HKS := Aside0.mk hks
  clear hks
  have HVX := Aside0.mk (And.intro (fun s => okI_conts HH.out.1 s) (And.intro (fun s => okI_conts HH.out.2.1 s) (fun s => okI_conts HH.out.2.2.1 s)))
  generalize hx0 : contsM l0 = x at HX HKS HVX
  generalize hy0 : contsM l1 = y at HY HKS HVX
  generalize hz0 : contsM l2 = z at HZ HKS HVX
  have HXY := Aside0.mk (And.intro hx0 (And.intro hy0 hz0))
  clear hx0 hy0 hz0
  obtain ⟨HL1, HL2, _⟩ := Kd.R_reads' HKR.out
  have HLN := Aside0.mk HL1
  clear HL1 HL2
  generalize hbm0 : w3.heap.size = bm at HM HBM ⊢
  generalize he4 : w4.heap.size = e4 at HKR HBM
  generalize he5 : w5.heap.size = e5 at HKR HBM
  have HB5 := Aside0.mk (Nat.le_of_eq he5.symm)
  clear hbm0 he4
  go_wp2
  go_loopg [12, 28] ks.length (fun kq v12 v28 w' => ∃ (i : Nat), v28 = .int .i64 (i : Int) ∧ Aside0 (i ≤ ks.length ∧ ks.length - i ≤ kq) ∧ Aside0 (SM Tryd.prog 9 3 w' bm (2 * i) (mergedM x y z (ks.take i))) ∧ Aside0 (SM Tryd.prog 9 3 w' b1 1000000 x) ∧ Aside0 (SM Tryd.prog 9 3 w' b2 1000000 y) ∧ Aside0 (SM Tryd.prog 9 3 w' b3 1000000 z) ∧ Aside0 (Kd.R Kd.string 9 w' e4 (fun k => e4 ≤ k ∧ k < e5) (.slice A ks.length cA) ks) ∧ Aside0 (Kd.R Kd.string 9 w' w.heap.size (fun k => e5 ≤ k) v12 ((ks.take i).filter (clashM x y z))) ∧ Aside0 (Below w.heap.size w w') ∧ Aside0 (e5 ≤ w'.heap.size))
  case atStart => exact ⟨0, rfl, ⟨Nat.zero_le _, by omega⟩, HM, HX, HY, HZ, HKR, ⟨Kd.R_nil _ _ _ _ _⟩, HB, HB5⟩
  case round =>
    clear HX HY HZ HM HKR HB HB5 he5
    obtain ⟨i, rfl, HK, HM, HX, HY, HZ, HKR, HO, HB2, HB5⟩ := hrel
    by_cases hlt : i < ks.length
    · cases gk with
      | zero => exfalso; have := HK.out; omega
      | succ k1 =>
        have c1 : decide ((i : Int) < (ks.length : Int)) = true := decide_eq_true (by omega)
        obtain ⟨ad, e, hx⟩ := at9 (Kd.R_reads' HKR.out).2.2 i hlt rfl
        subst e
        have p : (0 ≤ (i : Int)) = True := eq_true (by omega)
        have q : ((i : Int) < (ks.length : Int)) = True := eq_true (by omega)
        have HS := Aside0.mk (show okS ks[i] = true from List.all_eq_true.1 HKS0.out _ (List.getElem_mem _))
        have HF := Aside0.mk (clash_snoc x y z ks i hlt)
        have HG := Aside0.mk (merged_snoc x y z ks i hlt)
        generalize ks[i] = s at hx HS HF HG
        have HV := Aside0.mk (And.intro (HVX.out.1 s) (And.intro (HVX.out.2.1 s) (HVX.out.2.2 s)))
        by_cases hyx : valM y s = valM x s
        · skip
          have g1 : (valM y s == valM x s) = true := by simpa using hyx
          have g2 : (valM x s != valM y s) = false := by simpa using hyx.symm
          go_wp2_with (first
            | (at_lookup; (try (refine gate_guard (by rfl) ?_; dsimp only)); obtain ⟨D, hD, hRp⟩ := HX.out; refine wpList_lookup_own_int _ rfl _ _ 51 rfl 9 3 .i64 law9 Tryd.underlying51 Tryd.underlying3 (zero3 _) b1 1000000 D rfl hD _ _ rfl (key_ok HS.out) ?_; intro c hat hwc; obtain rfl := SM.look hRp hat; clear hat hwc hD hRp)
            | (at_lookup; (try (refine gate_guard (by rfl) ?_; dsimp only)); obtain ⟨D, hD, hRp⟩ := HY.out; refine wpList_lookup_own_int _ rfl _ _ 51 rfl 9 3 .i64 law9 Tryd.underlying51 Tryd.underlying3 (zero3 _) b2 1000000 D rfl hD _ _ rfl (key_ok HS.out) ?_; intro c hat hwc; obtain rfl := SM.look hRp hat; clear hat hwc hD hRp)
            | (at_lookup; (try (refine gate_guard (by rfl) ?_; dsimp only)); obtain ⟨D, hD, hRp⟩ := HZ.out; refine wpList_lookup_own_int _ rfl _ _ 51 rfl 9 3 .i64 law9 Tryd.underlying51 Tryd.underlying3 (zero3 _) b3 1000000 D rfl hD _ _ rfl (key_ok HS.out) ?_; intro c hat hwc; obtain rfl := SM.look hRp hat; clear hat hwc hD hRp)
            | (at_mapUpdate
               obtain ⟨D, hD, hRp⟩ := HM.out
               refine wpList_mapUpdate_own _ rfl _ _ _ 51 rfl 9 3 law9 Tryd.underlying51 _ bm (2 * i) D rfl hD (by have := HK.out; have := HP.out; unfold maxLen; omega) _ _ _ rfl rfl (key_ok HS.out) _ [] (val_ok HV.out.2.1) ?_
               intro w9 hown9 hgrow9
               have n0_ := Aside0.mk (show SM Tryd.prog 9 3 w9 bm (2 * i + 1) (mput (mergedM x y z (ks.take i)) s (valM y s)) from ⟨_, hown9, hRp.put hD.isMap s _⟩)
               have n1_ := Aside0.mk (HB2.out.grown hgrow9 HB2.out.size (fun k hk => by cases hk; exact HBM.out.1))
               have n2_ := Aside0.mk (HX.out.grown hgrow9 (by intro e; injection e with e; have := HBM.out; omega))
               have n3_ := Aside0.mk (HY.out.grown hgrow9 (by intro e; injection e with e; have := HBM.out; omega))
               have n4_ := Aside0.mk (HZ.out.grown hgrow9 (by intro e; injection e with e; have := HBM.out; omega))
               have n5_ := Aside0.mk (Kd.R_grown HKR.out hgrow9 (fun k hk e => by injection e with e; have := HBM.out; omega))
               have n6_ := Aside0.mk (Kd.R_grown HO.out hgrow9 (fun k hk e => by injection e with e; have := HBM.out; omega))
               have n7_ := Aside0.mk (Nat.le_trans HB5.out hgrow9.size)
               clear HM HB2 HX HY HZ HKR HO hD hRp hown9 hgrow9 HB5
               have HM := n0_; have HB2 := n1_; have HX := n2_; have HY := n3_; have HZ := n4_; have HKR := n5_; have HO := n6_; have HB5 := n7_; clear n0_ n1_ n2_ n3_ n4_ n5_ n6_ n7_)
            | (at_mapUpdate
               obtain ⟨D, hD, hRp⟩ := HM.out
               refine wpList_mapUpdate_own _ rfl _ _ _ 51 rfl 9 3 law9 Tryd.underlying51 _ bm (2 * i + 1) D rfl hD (by have := HK.out; have := HP.out; unfold maxLen; omega) _ _ _ rfl rfl (key_ok HS.out) _ [] (val_ok HV.out.2.2) ?_
               intro w9 hown9 hgrow9
               have n0_ := Aside0.mk (show SM Tryd.prog 9 3 w9 bm (2 * i + 1 + 1) (mput (mput (mergedM x y z (ks.take i)) s (valM y s)) s (valM z s)) from ⟨_, hown9, hRp.put hD.isMap s _⟩)
               have n1_ := Aside0.mk (HB2.out.grown hgrow9 HB2.out.size (fun k hk => by cases hk; exact HBM.out.1))
               have n2_ := Aside0.mk (HX.out.grown hgrow9 (by intro e; injection e with e; have := HBM.out; omega))
               have n3_ := Aside0.mk (HY.out.grown hgrow9 (by intro e; injection e with e; have := HBM.out; omega))
               have n4_ := Aside0.mk (HZ.out.grown hgrow9 (by intro e; injection e with e; have := HBM.out; omega))
               have n5_ := Aside0.mk (Kd.R_grown HKR.out hgrow9 (fun k hk e => by injection e with e; have := HBM.out; omega))
               have n6_ := Aside0.mk (Kd.R_grown HO.out hgrow9 (fun k hk e => by injection e with e; have := HBM.out; omega))
               have n7_ := Aside0.mk (Nat.le_trans HB5.out hgrow9.size)
               clear HM HB2 HX HY HZ HKR HO hD hRp hown9 hgrow9 HB5
               have HM := n0_; have HB2 := n1_; have HX := n2_; have HY := n3_; have HZ := n4_; have HKR := n5_; have HO := n6_; have HB5 := n7_; clear n0_ n1_ n2_ n3_ n4_ n5_ n6_ n7_))
          go_roundg k1
          case measure => omega
          case rel =>
            refine ⟨i + 1, by rw [w_inc_ i (by have := HP.out; omega)], ⟨by omega, by have := HK.out; omega⟩, ⟨?_⟩, HX, HY, HZ, HKR, ⟨?_⟩, HB2, HB5⟩
            · have h1 := HM.out
              rw [HG.out]
              unfold pickM
              rw [if_pos hyx]
              exact (SM.mono (SM.congr h1 (fun t => by rw [mget_put, mget_put, mget_put]; by_cases e : s = t <;> simp [e])) (by omega))
            · rw [HF.out, show clashM x y z s = false from by simp [clashM, hyx]]
              exact (by simpa using HO.out)
        by_cases hxz : valM x s = valM z s
        · skip
          have g1 : (valM y s == valM x s) = false := by simpa using hyx
          have g2 : (valM x s != valM y s) = true := by simpa using (Ne.symm hyx)
          have g3 : (valM x s != valM z s) = false := by simpa using hxz
          go_wp2_with (first
            | (at_lookup; (try (refine gate_guard (by rfl) ?_; dsimp only)); obtain ⟨D, hD, hRp⟩ := HX.out; refine wpList_lookup_own_int _ rfl _ _ 51 rfl 9 3 .i64 law9 Tryd.underlying51 Tryd.underlying3 (zero3 _) b1 1000000 D rfl hD _ _ rfl (key_ok HS.out) ?_; intro c hat hwc; obtain rfl := SM.look hRp hat; clear hat hwc hD hRp)
            | (at_lookup; (try (refine gate_guard (by rfl) ?_; dsimp only)); obtain ⟨D, hD, hRp⟩ := HY.out; refine wpList_lookup_own_int _ rfl _ _ 51 rfl 9 3 .i64 law9 Tryd.underlying51 Tryd.underlying3 (zero3 _) b2 1000000 D rfl hD _ _ rfl (key_ok HS.out) ?_; intro c hat hwc; obtain rfl := SM.look hRp hat; clear hat hwc hD hRp)
            | (at_lookup; (try (refine gate_guard (by rfl) ?_; dsimp only)); obtain ⟨D, hD, hRp⟩ := HZ.out; refine wpList_lookup_own_int _ rfl _ _ 51 rfl 9 3 .i64 law9 Tryd.underlying51 Tryd.underlying3 (zero3 _) b3 1000000 D rfl hD _ _ rfl (key_ok HS.out) ?_; intro c hat hwc; obtain rfl := SM.look hRp hat; clear hat hwc hD hRp)
            | (at_mapUpdate
               obtain ⟨D, hD, hRp⟩ := HM.out
               refine wpList_mapUpdate_own _ rfl _ _ _ 51 rfl 9 3 law9 Tryd.underlying51 _ bm (2 * i) D rfl hD (by have := HK.out; have := HP.out; unfold maxLen; omega) _ _ _ rfl rfl (key_ok HS.out) _ [] (val_ok HV.out.2.1) ?_
               intro w9 hown9 hgrow9
               have n0_ := Aside0.mk (show SM Tryd.prog 9 3 w9 bm (2 * i + 1) (mput (mergedM x y z (ks.take i)) s (valM y s)) from ⟨_, hown9, hRp.put hD.isMap s _⟩)
               have n1_ := Aside0.mk (HB2.out.grown hgrow9 HB2.out.size (fun k hk => by cases hk; exact HBM.out.1))
               have n2_ := Aside0.mk (HX.out.grown hgrow9 (by intro e; injection e with e; have := HBM.out; omega))
               have n3_ := Aside0.mk (HY.out.grown hgrow9 (by intro e; injection e with e; have := HBM.out; omega))
               have n4_ := Aside0.mk (HZ.out.grown hgrow9 (by intro e; injection e with e; have := HBM.out; omega))
               have n5_ := Aside0.mk (Kd.R_grown HKR.out hgrow9 (fun k hk e => by injection e with e; have := HBM.out; omega))
               have n6_ := Aside0.mk (Kd.R_grown HO.out hgrow9 (fun k hk e => by injection e with e; have := HBM.out; omega))
               have n7_ := Aside0.mk (Nat.le_trans HB5.out hgrow9.size)
               clear HM HB2 HX HY HZ HKR HO hD hRp hown9 hgrow9 HB5
               have HM := n0_; have HB2 := n1_; have HX := n2_; have HY := n3_; have HZ := n4_; have HKR := n5_; have HO := n6_; have HB5 := n7_; clear n0_ n1_ n2_ n3_ n4_ n5_ n6_ n7_
               obtain ⟨Dx, hDx, hRx⟩ := HX.out; obtain ⟨cx, hrunx, hatx, hcx⟩ := hDx.lookup_int law9 Tryd.underlying51 Tryd.underlying3 (zero3 _) (key_ok HS.out); obtain rfl := SM.look hRx hatx; clear hDx hRx hatx hcx
               obtain ⟨Dy, hDy, hRy⟩ := HY.out; obtain ⟨cy, hruny, haty, hcy⟩ := hDy.lookup_int law9 Tryd.underlying51 Tryd.underlying3 (zero3 _) (key_ok HS.out); obtain rfl := SM.look hRy haty; clear hDy hRy haty hcy
               obtain ⟨Dz, hDz, hRz⟩ := HZ.out; obtain ⟨cz, hrunz, hatz, hcz⟩ := hDz.lookup_int law9 Tryd.underlying51 Tryd.underlying3 (zero3 _) (key_ok HS.out); obtain rfl := SM.look hRz hatz; clear hDz hRz hatz hcz))
          go_roundg k1
          case measure => omega
          case rel =>
            refine ⟨i + 1, by rw [w_inc_ i (by have := HP.out; omega)], ⟨by omega, by have := HK.out; omega⟩, ⟨?_⟩, HX, HY, HZ, HKR, ⟨?_⟩, HB2, HB5⟩
            · have h1 := HM.out
              rw [HG.out]
              unfold pickM
              rw [if_neg hyx]
              exact (SM.mono h1 (by omega))
            · rw [HF.out, show clashM x y z s = false from by simp [clashM, hxz]]
              exact (by simpa using HO.out)
        by_cases hyz : valM y s = valM z s
        · skip
          have g1 : (valM y s == valM x s) = false := by simpa using hyx
          have g2 : (valM x s != valM y s) = true := by simpa using (Ne.symm hyx)
          have g3 : (valM x s != valM z s) = true := by simpa using hxz
          have g4 : (valM y s != valM z s) = false := by simpa using hyz
          go_wp2_with (first
            | (at_lookup; (try (refine gate_guard (by rfl) ?_; dsimp only)); obtain ⟨D, hD, hRp⟩ := HX.out; refine wpList_lookup_own_int _ rfl _ _ 51 rfl 9 3 .i64 law9 Tryd.underlying51 Tryd.underlying3 (zero3 _) b1 1000000 D rfl hD _ _ rfl (key_ok HS.out) ?_; intro c hat hwc; obtain rfl := SM.look hRp hat; clear hat hwc hD hRp)
            | (at_lookup; (try (refine gate_guard (by rfl) ?_; dsimp only)); obtain ⟨D, hD, hRp⟩ := HY.out; refine wpList_lookup_own_int _ rfl _ _ 51 rfl 9 3 .i64 law9 Tryd.underlying51 Tryd.underlying3 (zero3 _) b2 1000000 D rfl hD _ _ rfl (key_ok HS.out) ?_; intro c hat hwc; obtain rfl := SM.look hRp hat; clear hat hwc hD hRp)
            | (at_lookup; (try (refine gate_guard (by rfl) ?_; dsimp only)); obtain ⟨D, hD, hRp⟩ := HZ.out; refine wpList_lookup_own_int _ rfl _ _ 51 rfl 9 3 .i64 law9 Tryd.underlying51 Tryd.underlying3 (zero3 _) b3 1000000 D rfl hD _ _ rfl (key_ok HS.out) ?_; intro c hat hwc; obtain rfl := SM.look hRp hat; clear hat hwc hD hRp)
            | (at_mapUpdate
               obtain ⟨D, hD, hRp⟩ := HM.out
               refine wpList_mapUpdate_own _ rfl _ _ _ 51 rfl 9 3 law9 Tryd.underlying51 _ bm (2 * i) D rfl hD (by have := HK.out; have := HP.out; unfold maxLen; omega) _ _ _ rfl rfl (key_ok HS.out) _ [] (val_ok HV.out.2.1) ?_
               intro w9 hown9 hgrow9
               have n0_ := Aside0.mk (show SM Tryd.prog 9 3 w9 bm (2 * i + 1) (mput (mergedM x y z (ks.take i)) s (valM y s)) from ⟨_, hown9, hRp.put hD.isMap s _⟩)
               have n1_ := Aside0.mk (HB2.out.grown hgrow9 HB2.out.size (fun k hk => by cases hk; exact HBM.out.1))
               have n2_ := Aside0.mk (HX.out.grown hgrow9 (by intro e; injection e with e; have := HBM.out; omega))
               have n3_ := Aside0.mk (HY.out.grown hgrow9 (by intro e; injection e with e; have := HBM.out; omega))
               have n4_ := Aside0.mk (HZ.out.grown hgrow9 (by intro e; injection e with e; have := HBM.out; omega))
               have n5_ := Aside0.mk (Kd.R_grown HKR.out hgrow9 (fun k hk e => by injection e with e; have := HBM.out; omega))
               have n6_ := Aside0.mk (Kd.R_grown HO.out hgrow9 (fun k hk e => by injection e with e; have := HBM.out; omega))
               have n7_ := Aside0.mk (Nat.le_trans HB5.out hgrow9.size)
               clear HM HB2 HX HY HZ HKR HO hD hRp hown9 hgrow9 HB5
               have HM := n0_; have HB2 := n1_; have HX := n2_; have HY := n3_; have HZ := n4_; have HKR := n5_; have HO := n6_; have HB5 := n7_; clear n0_ n1_ n2_ n3_ n4_ n5_ n6_ n7_
               obtain ⟨Dx, hDx, hRx⟩ := HX.out; obtain ⟨cx, hrunx, hatx, hcx⟩ := hDx.lookup_int law9 Tryd.underlying51 Tryd.underlying3 (zero3 _) (key_ok HS.out); obtain rfl := SM.look hRx hatx; clear hDx hRx hatx hcx
               obtain ⟨Dy, hDy, hRy⟩ := HY.out; obtain ⟨cy, hruny, haty, hcy⟩ := hDy.lookup_int law9 Tryd.underlying51 Tryd.underlying3 (zero3 _) (key_ok HS.out); obtain rfl := SM.look hRy haty; clear hDy hRy haty hcy
               obtain ⟨Dz, hDz, hRz⟩ := HZ.out; obtain ⟨cz, hrunz, hatz, hcz⟩ := hDz.lookup_int law9 Tryd.underlying51 Tryd.underlying3 (zero3 _) (key_ok HS.out); obtain rfl := SM.look hRz hatz; clear hDz hRz hatz hcz))
          go_roundg k1
          case measure => omega
          case rel =>
            refine ⟨i + 1, by rw [w_inc_ i (by have := HP.out; omega)], ⟨by omega, by have := HK.out; omega⟩, ⟨?_⟩, HX, HY, HZ, HKR, ⟨?_⟩, HB2, HB5⟩
            · have h1 := HM.out
              rw [HG.out]
              unfold pickM
              rw [if_neg hyx]
              exact (SM.mono h1 (by omega))
            · rw [HF.out, show clashM x y z s = false from by simp [clashM, hyz]]
              exact (by simpa using HO.out)
        · skip
          have g1 : (valM y s == valM x s) = false := by simpa using hyx
          have g2 : (valM x s != valM y s) = true := by simpa using (Ne.symm hyx)
          have g3 : (valM x s != valM z s) = true := by simpa using hxz
          have g4 : (valM y s != valM z s) = true := by simpa using hyz
          go_wp2_with (first
            | (at_lookup; (try (refine gate_guard (by rfl) ?_; dsimp only)); obtain ⟨D, hD, hRp⟩ := HX.out; refine wpList_lookup_own_int _ rfl _ _ 51 rfl 9 3 .i64 law9 Tryd.underlying51 Tryd.underlying3 (zero3 _) b1 1000000 D rfl hD _ _ rfl (key_ok HS.out) ?_; intro c hat hwc; obtain rfl := SM.look hRp hat; clear hat hwc hD hRp)
            | (at_lookup; (try (refine gate_guard (by rfl) ?_; dsimp only)); obtain ⟨D, hD, hRp⟩ := HY.out; refine wpList_lookup_own_int _ rfl _ _ 51 rfl 9 3 .i64 law9 Tryd.underlying51 Tryd.underlying3 (zero3 _) b2 1000000 D rfl hD _ _ rfl (key_ok HS.out) ?_; intro c hat hwc; obtain rfl := SM.look hRp hat; clear hat hwc hD hRp)
            | (at_lookup; (try (refine gate_guard (by rfl) ?_; dsimp only)); obtain ⟨D, hD, hRp⟩ := HZ.out; refine wpList_lookup_own_int _ rfl _ _ 51 rfl 9 3 .i64 law9 Tryd.underlying51 Tryd.underlying3 (zero3 _) b3 1000000 D rfl hD _ _ rfl (key_ok HS.out) ?_; intro c hat hwc; obtain rfl := SM.look hRp hat; clear hat hwc hD hRp)
            | (at_mapUpdate
               obtain ⟨D, hD, hRp⟩ := HM.out
               refine wpList_mapUpdate_own _ rfl _ _ _ 51 rfl 9 3 law9 Tryd.underlying51 _ bm (2 * i) D rfl hD (by have := HK.out; have := HP.out; unfold maxLen; omega) _ _ _ rfl rfl (key_ok HS.out) _ [] (val_ok HV.out.2.1) ?_
               intro w9 hown9 hgrow9
               have n0_ := Aside0.mk (show SM Tryd.prog 9 3 w9 bm (2 * i + 1) (mput (mergedM x y z (ks.take i)) s (valM y s)) from ⟨_, hown9, hRp.put hD.isMap s _⟩)
               have n1_ := Aside0.mk (HB2.out.grown hgrow9 HB2.out.size (fun k hk => by cases hk; exact HBM.out.1))
               have n2_ := Aside0.mk (HX.out.grown hgrow9 (by intro e; injection e with e; have := HBM.out; omega))
               have n3_ := Aside0.mk (HY.out.grown hgrow9 (by intro e; injection e with e; have := HBM.out; omega))
               have n4_ := Aside0.mk (HZ.out.grown hgrow9 (by intro e; injection e with e; have := HBM.out; omega))
               have n5_ := Aside0.mk (Kd.R_grown HKR.out hgrow9 (fun k hk e => by injection e with e; have := HBM.out; omega))
               have n6_ := Aside0.mk (Kd.R_grown HO.out hgrow9 (fun k hk e => by injection e with e; have := HBM.out; omega))
               have n7_ := Aside0.mk (Nat.le_trans HB5.out hgrow9.size)
               clear HM HB2 HX HY HZ HKR HO hD hRp hown9 hgrow9 HB5
               have HM := n0_; have HB2 := n1_; have HX := n2_; have HY := n3_; have HZ := n4_; have HKR := n5_; have HO := n6_; have HB5 := n7_; clear n0_ n1_ n2_ n3_ n4_ n5_ n6_ n7_
               obtain ⟨Dx, hDx, hRx⟩ := HX.out; obtain ⟨cx, hrunx, hatx, hcx⟩ := hDx.lookup_int law9 Tryd.underlying51 Tryd.underlying3 (zero3 _) (key_ok HS.out); obtain rfl := SM.look hRx hatx; clear hDx hRx hatx hcx
               obtain ⟨Dy, hDy, hRy⟩ := HY.out; obtain ⟨cy, hruny, haty, hcy⟩ := hDy.lookup_int law9 Tryd.underlying51 Tryd.underlying3 (zero3 _) (key_ok HS.out); obtain rfl := SM.look hRy haty; clear hDy hRy haty hcy
               obtain ⟨Dz, hDz, hRz⟩ := HZ.out; obtain ⟨cz, hrunz, hatz, hcz⟩ := hDz.lookup_int law9 Tryd.underlying51 Tryd.underlying3 (zero3 _) (key_ok HS.out); obtain rfl := SM.look hRz hatz; clear hDz hRz hatz hcz)
            | ((with_reducible refine gate_builtin (b := .append) (xs := #[.tmp 74, .tmp 76]) rfl ?_); at_builtin
               refine Kd.R_append Kd.string (w0 := w) w.heap.size rfl (.tmp 74) (.tmp 76) 39 9 (.string ⟨#[]⟩) 16 rfl Tryd.underlying39 HI.out rfl (by decide) (by omega) _ ((ks.take i).filter (clashM x y z)) s [.string s] (fun k => e5 ≤ k) (fun _ => False) rfl rfl rfl (fun _ hk => hk.elim) (fun k hk => ?fr) HO.out HB2.out HB2.out.size ?len ?_;
               (case fr => have := HB5.out; omega);
               (case len => have h1 := List.length_filter_le (clashM x y z) (ks.take i); rw [List.length_take] at h1; have := HP.out; omega);
               intro v4 w5 ho4 hb4 hg4 hat4
               have hne : ∀ k, some k = u12.ownBlock → e5 ≤ k := fun k hk => HO.out.1 k hk.symm
               have n0_ := Aside0.mk ho4; have n1_ := Aside0.mk hb4
               have n2_ := Aside0.mk (HX.out.grown hg4 (fun e => by have := hne _ e; have := HBM.out; omega))
               have n3_ := Aside0.mk (HY.out.grown hg4 (fun e => by have := hne _ e; have := HBM.out; omega))
               have n4_ := Aside0.mk (HZ.out.grown hg4 (fun e => by have := hne _ e; have := HBM.out; omega))
               have n5_ := Aside0.mk (Kd.R_grown HKR.out hg4 (fun k hk e => by have := hne _ e; omega))
               have n6_ := Aside0.mk (HM.out.grown hg4 (fun e => by have := hne _ e; have := HBM.out; omega))
               have n7_ := Aside0.mk (Nat.le_trans HB5.out hg4.size)
               clear ho4 hb4 hg4 hat4 hne HO HB2 HX HY HZ HKR HM HB5
               have HO := n0_; have HB2 := n1_; have HX := n2_; have HY := n3_; have HZ := n4_; have HKR := n5_; have HM := n6_; have HB5 := n7_; clear n0_ n1_ n2_ n3_ n4_ n5_ n6_ n7_))
          go_roundg k1
          case measure => omega
          case rel =>
            refine ⟨i + 1, by rw [w_inc_ i (by have := HP.out; omega)], ⟨by omega, by have := HK.out; omega⟩, ⟨?_⟩, HX, HY, HZ, HKR, ⟨?_⟩, HB2, HB5⟩
            · have h1 := HM.out
              rw [HG.out]
              unfold pickM
              rw [if_neg hyx]
              exact (SM.mono h1 (by omega))
            · rw [HF.out, show clashM x y z s = true from by simp [clashM, Ne.symm hyx, hxz, hyz]]
              exact HO.out
    · have hi : i = ks.length := by have := HK.out; omega
      have c1 : decide ((i : Int) < (ks.length : Int)) = false := decide_eq_false (by omega)
      have h1 := HO.out
      have h2 := HM.out
      rw [hi, List.take_length] at h1 h2
      have hMl : (mergedM x y z ks).length = ks.length := by rw [mergedM, List.length_reverse, List.length_map]
      have hmo : okM_ (mergedM x y z ks) := fun s hs => List.all_eq_true.1 HKS0.out _ (mget_merged x y z ks s hs)
      have hfl := Aside0.mk (tree_files.calls_ bm (mergedM x y z ks) wr (h2.mono (by have := HP.out; omega)) (okM_paths hmo) (by have := HP.out; omega))
      have HO2 := Aside0.mk (Kd.R_mono h1 (ok' := fun _ => True) (fun _ _ => trivial))
      clear h1 h2 hMl hmo HM HX HY HZ HKR HO
      go_wp2_with fail
      go_at_call 37
      refine hfl.out.mono ?_
      rintro e w6 ⟨v6, rfl, hR6, hB6⟩
      have HR6 := Aside0.mk (Kd.R_lower hR6 HB2.out.size)
      have HO6 := Aside0.mk (Kd.R_below HO2.out hB6)
      have HB6 := Aside0.mk (below_then HB2.out HB2.out.size hB6)
      clear hfl hR6 hB6 HO2 HB2
      go_wp2
      go_ret2
      refine ⟨_, _, rfl, ?_, ?_, HB6.out⟩
      · rw [HXY.out.1, HXY.out.2.1, HXY.out.2.2, HKS.out]; exact HR6.out
      · rw [HXY.out.1, HXY.out.2.1, HXY.out.2.2, HKS.out]; exact HO6.out

/-! ### codesearchlaw25_alive: function 11 -/
def codesearchlaw25_alive.f (k : Nat)  : Option (Bool) := (some (([(⟨(⟨#[97]⟩ : ByteArray), 1⟩ : S45), (⟨(⟨#[98]⟩ : ByteArray), 2⟩ : S45)] : List (S45)) : List (S45))).bind fun y153 => ((tree_Apply.f k y153 (([(⟨(⟨#[97]⟩ : ByteArray), 5⟩ : S47), (⟨(⟨#[98]⟩ : ByteArray), 0⟩ : S47)] : List (S47)))).bind fun bt159 => ((tree_Apply.f k y153 (([(⟨(⟨#[98]⟩ : ByteArray), 0⟩ : S47), (⟨(⟨#[98]⟩ : ByteArray), 0⟩ : S47)] : List (S47)))).bind fun bt166 => (if bt159.2 = 0 then (if bt166.2 = 8 then ((codesearchref25_Files.f k bt159.1 (([(⟨(⟨#[97]⟩ : ByteArray), 5⟩ : S45)] : List (S45)))).bind fun t173 => (if t173 = true then ((tree_Right.f k (([(⟨(⟨#[97, 47, 98]⟩ : ByteArray), 1⟩ : S45), (⟨(⟨#[97, 46, 99]⟩ : ByteArray), 2⟩ : S45)] : List (S45)))).bind fun t177 => (if t177 = 7 then ((tree_Right.f k (([(⟨(⟨#[97]⟩ : ByteArray), 1⟩ : S45), (⟨(⟨#[97, 47, 98]⟩ : ByteArray), 2⟩ : S45)] : List (S45)))).bind fun t181 => (if t181 = 14 then ((some (([(⟨(⟨#[97, 47, 120]⟩ : ByteArray), 1⟩ : S45), (⟨(⟨#[97, 47, 121, 47, 122]⟩ : ByteArray), 1⟩ : S45), (⟨(⟨#[98]⟩ : ByteArray), 1⟩ : S45)] : List (S45)) : List (S45))).bind fun y182 => ((tree_Names.f k y182 (⟨#[]⟩ : ByteArray)).bind fun t185 => ((codesearchref01_Strings.f k t185 (([(⟨#[97]⟩ : ByteArray), (⟨#[98]⟩ : ByteArray)] : List ByteArray))).bind fun t191 => (if t191 = true then ((tree_Names.f k y182 (⟨#[97]⟩ : ByteArray)).bind fun t192 => ((codesearchref01_Strings.f k t192 (([(⟨#[120]⟩ : ByteArray), (⟨#[121]⟩ : ByteArray)] : List ByteArray))).bind fun t198 => (if t198 = true then ((tree_Under.f k y182 (⟨#[97]⟩ : ByteArray)).bind fun t199 => (if (t199.length : Int) = 2 then ((tree_Get.f k y182 (⟨#[98]⟩ : ByteArray)).bind fun bt202 => ((tree_Merge.f (([(⟨(⟨#[97]⟩ : ByteArray), 1⟩ : S45), (⟨(⟨#[98]⟩ : ByteArray), 1⟩ : S45)] : List (S45))) (([(⟨(⟨#[97]⟩ : ByteArray), 2⟩ : S45), (⟨(⟨#[98]⟩ : ByteArray), 1⟩ : S45)] : List (S45))) (([(⟨(⟨#[97]⟩ : ByteArray), 3⟩ : S45), (⟨(⟨#[99]⟩ : ByteArray), 3⟩ : S45)] : List (S45)))).bind fun bt213 => ((tree_Diff.f y153 bt159.1).bind fun t219 => ((codesearchref25_Changes.f k t219 (([(⟨(⟨#[97]⟩ : ByteArray), 5⟩ : S47), (⟨(⟨#[98]⟩ : ByteArray), 0⟩ : S47)] : List (S47)))).bind fun t225 => (if t225 = true then (if bt202.1 = 1 then (if bt202.2 = true then ((codesearchref25_Files.f k bt213.1 (([(⟨(⟨#[97]⟩ : ByteArray), 2⟩ : S45), (⟨(⟨#[99]⟩ : ByteArray), 3⟩ : S45)] : List (S45)))).bind fun t229 => (if t229 = true then ((codesearchref01_Strings.f k bt213.2 (([(⟨#[97]⟩ : ByteArray)] : List ByteArray))).bind fun t233 => (some t233)) else (none))) else (none)) else (none)) else (none)))))) else (none))) else (none)))) else (none))))) else (none))) else (none))) else (none))) else (none)) else (none))))
theorem codesearchlaw25_alive.mono : ∀ k, LeO (codesearchlaw25_alive.f k ) (codesearchlaw25_alive.f (k + 1) ) := by
 intro  k
 unfold codesearchlaw25_alive.f
 repeat' first
  |(with_reducible exact codesearchref01_Strings.mono _ _ _)
  |(with_reducible exact codesearchref25_Changes.mono _ _ _)
  |(with_reducible exact codesearchref25_Files.mono _ _ _)
  |(with_reducible exact tree_Apply.mono _ _ _)
  |(with_reducible exact tree_Get.mono _ _ _)
  |(with_reducible exact tree_Names.mono _ _ _)
  |(with_reducible exact tree_Right.mono _ _)
  |(with_reducible exact tree_Under.mono _ _ _)
  |(with_reducible exact LeO.refl _)
  |(with_reducible exact LeO.none _)
  |(with_reducible refine LeO.ite ?_ ?_)
  |(with_reducible refine LeO.bind ?_ (fun _ => ?_))
  |exact codesearchref01_Strings.mono _ _ _
  |exact codesearchref25_Changes.mono _ _ _
  |exact codesearchref25_Files.mono _ _ _
  |exact tree_Apply.mono _ _ _
  |exact tree_Get.mono _ _ _
  |exact tree_Names.mono _ _ _
  |exact tree_Right.mono _ _
  |exact tree_Under.mono _ _ _
  |exact LeO.none _
  |refine LeO.ite ?_ ?_
  |refine LeO.bind ?_ (fun _ => ?_)
set_option maxHeartbeats 4000000 in
set_option maxRecDepth 100000 in
theorem codesearchlaw25_alive.calls (k : Nat)  (r : Bool) (w : World) (h : codesearchlaw25_alive.f k  = some r) :
  Calls Tryd.prog 11 #[] w fun e w' => e = .returned (.bool r) ∧ Below w.heap.size w w' := by
 have hu45 := Tryd.underlying45
 have hu47 := Tryd.underlying47
 have HB := Aside0.mk (Below.refl w.heap.size w)
 have H : ((some (([(⟨(⟨#[97]⟩ : ByteArray),1⟩ : S45),(⟨(⟨#[98]⟩ : ByteArray),2⟩ : S45)] : List (S45)) : List (S45))).bind fun y153 => ((tree_Apply.f k y153 (([(⟨(⟨#[97]⟩ : ByteArray),5⟩ : S47),(⟨(⟨#[98]⟩ : ByteArray),0⟩ : S47)] : List (S47)))).bind fun bt159 => ((tree_Apply.f k y153 (([(⟨(⟨#[98]⟩ : ByteArray),0⟩ : S47),(⟨(⟨#[98]⟩ : ByteArray),0⟩ : S47)] : List (S47)))).bind fun bt166 => (if bt159.2 = 0 then (if bt166.2 = 8 then ((codesearchref25_Files.f k bt159.1 (([(⟨(⟨#[97]⟩ : ByteArray),5⟩ : S45)] : List (S45)))).bind fun t173 => (if t173 = true then ((tree_Right.f k (([(⟨(⟨#[97,47,98]⟩ : ByteArray),1⟩ : S45),(⟨(⟨#[97,46,99]⟩ : ByteArray),2⟩ : S45)] : List (S45)))).bind fun t177 => (if t177 = 7 then ((tree_Right.f k (([(⟨(⟨#[97]⟩ : ByteArray),1⟩ : S45),(⟨(⟨#[97,47,98]⟩ : ByteArray),2⟩ : S45)] : List (S45)))).bind fun t181 => (if t181 = 14 then ((some (([(⟨(⟨#[97,47,120]⟩ : ByteArray),1⟩ : S45),(⟨(⟨#[97,47,121,47,122]⟩ : ByteArray),1⟩ : S45),(⟨(⟨#[98]⟩ : ByteArray),1⟩ : S45)] : List (S45)) : List (S45))).bind fun y182 => ((tree_Names.f k y182 (⟨#[]⟩ : ByteArray)).bind fun t185 => ((codesearchref01_Strings.f k t185 (([(⟨#[97]⟩ : ByteArray),(⟨#[98]⟩ : ByteArray)] : List ByteArray))).bind fun t191 => (if t191 = true then ((tree_Names.f k y182 (⟨#[97]⟩ : ByteArray)).bind fun t192 => ((codesearchref01_Strings.f k t192 (([(⟨#[120]⟩ : ByteArray),(⟨#[121]⟩ : ByteArray)] : List ByteArray))).bind fun t198 => (if t198 = true then ((tree_Under.f k y182 (⟨#[97]⟩ : ByteArray)).bind fun t199 => (if (t199.length : Int) = 2 then ((tree_Get.f k y182 (⟨#[98]⟩ : ByteArray)).bind fun bt202 => ((tree_Merge.f (([(⟨(⟨#[97]⟩ : ByteArray),1⟩ : S45),(⟨(⟨#[98]⟩ : ByteArray),1⟩ : S45)] : List (S45))) (([(⟨(⟨#[97]⟩ : ByteArray),2⟩ : S45),(⟨(⟨#[98]⟩ : ByteArray),1⟩ : S45)] : List (S45))) (([(⟨(⟨#[97]⟩ : ByteArray),3⟩ : S45),(⟨(⟨#[99]⟩ : ByteArray),3⟩ : S45)] : List (S45)))).bind fun bt213 => ((tree_Diff.f y153 bt159.1).bind fun t219 => ((codesearchref25_Changes.f k t219 (([(⟨(⟨#[97]⟩ : ByteArray),5⟩ : S47),(⟨(⟨#[98]⟩ : ByteArray),0⟩ : S47)] : List (S47)))).bind fun t225 => (if t225 = true then (if bt202.1 = 1 then (if bt202.2 = true then ((codesearchref25_Files.f k bt213.1 (([(⟨(⟨#[97]⟩ : ByteArray),2⟩ : S45),(⟨(⟨#[99]⟩ : ByteArray),3⟩ : S45)] : List (S45)))).bind fun t229 => (if t229 = true then ((codesearchref01_Strings.f k bt213.2 (([(⟨#[97]⟩ : ByteArray)] : List ByteArray))).bind fun t233 => (some t233)) else (none))) else (none)) else (none)) else (none)))))) else (none))) else (none)))) else (none))))) else (none))) else (none))) else (none))) else (none)) else (none))))) = some r := h
 clear h
 obtain ⟨y153,hy153⟩ : ∃ y_ : List (S45),y_ = (([(⟨(⟨#[97]⟩ : ByteArray),1⟩ : S45),(⟨(⟨#[98]⟩ : ByteArray),2⟩ : S45)] : List (S45))) := ⟨_,rfl⟩
 replace H : ((tree_Apply.f k y153 (([(⟨(⟨#[97]⟩ : ByteArray),5⟩ : S47),(⟨(⟨#[98]⟩ : ByteArray),0⟩ : S47)] : List (S47)))).bind fun bt159 => ((tree_Apply.f k y153 (([(⟨(⟨#[98]⟩ : ByteArray),0⟩ : S47),(⟨(⟨#[98]⟩ : ByteArray),0⟩ : S47)] : List (S47)))).bind fun bt166 => (if bt159.2 = 0 then (if bt166.2 = 8 then ((codesearchref25_Files.f k bt159.1 (([(⟨(⟨#[97]⟩ : ByteArray),5⟩ : S45)] : List (S45)))).bind fun t173 => (if t173 = true then ((tree_Right.f k (([(⟨(⟨#[97,47,98]⟩ : ByteArray),1⟩ : S45),(⟨(⟨#[97,46,99]⟩ : ByteArray),2⟩ : S45)] : List (S45)))).bind fun t177 => (if t177 = 7 then ((tree_Right.f k (([(⟨(⟨#[97]⟩ : ByteArray),1⟩ : S45),(⟨(⟨#[97,47,98]⟩ : ByteArray),2⟩ : S45)] : List (S45)))).bind fun t181 => (if t181 = 14 then ((some (([(⟨(⟨#[97,47,120]⟩ : ByteArray),1⟩ : S45),(⟨(⟨#[97,47,121,47,122]⟩ : ByteArray),1⟩ : S45),(⟨(⟨#[98]⟩ : ByteArray),1⟩ : S45)] : List (S45)) : List (S45))).bind fun y182 => ((tree_Names.f k y182 (⟨#[]⟩ : ByteArray)).bind fun t185 => ((codesearchref01_Strings.f k t185 (([(⟨#[97]⟩ : ByteArray),(⟨#[98]⟩ : ByteArray)] : List ByteArray))).bind fun t191 => (if t191 = true then ((tree_Names.f k y182 (⟨#[97]⟩ : ByteArray)).bind fun t192 => ((codesearchref01_Strings.f k t192 (([(⟨#[120]⟩ : ByteArray),(⟨#[121]⟩ : ByteArray)] : List ByteArray))).bind fun t198 => (if t198 = true then ((tree_Under.f k y182 (⟨#[97]⟩ : ByteArray)).bind fun t199 => (if (t199.length : Int) = 2 then ((tree_Get.f k y182 (⟨#[98]⟩ : ByteArray)).bind fun bt202 => ((tree_Merge.f (([(⟨(⟨#[97]⟩ : ByteArray),1⟩ : S45),(⟨(⟨#[98]⟩ : ByteArray),1⟩ : S45)] : List (S45))) (([(⟨(⟨#[97]⟩ : ByteArray),2⟩ : S45),(⟨(⟨#[98]⟩ : ByteArray),1⟩ : S45)] : List (S45))) (([(⟨(⟨#[97]⟩ : ByteArray),3⟩ : S45),(⟨(⟨#[99]⟩ : ByteArray),3⟩ : S45)] : List (S45)))).bind fun bt213 => ((tree_Diff.f y153 bt159.1).bind fun t219 => ((codesearchref25_Changes.f k t219 (([(⟨(⟨#[97]⟩ : ByteArray),5⟩ : S47),(⟨(⟨#[98]⟩ : ByteArray),0⟩ : S47)] : List (S47)))).bind fun t225 => (if t225 = true then (if bt202.1 = 1 then (if bt202.2 = true then ((codesearchref25_Files.f k bt213.1 (([(⟨(⟨#[97]⟩ : ByteArray),2⟩ : S45),(⟨(⟨#[99]⟩ : ByteArray),3⟩ : S45)] : List (S45)))).bind fun t229 => (if t229 = true then ((codesearchref01_Strings.f k bt213.2 (([(⟨#[97]⟩ : ByteArray)] : List ByteArray))).bind fun t233 => (some t233)) else (none))) else (none)) else (none)) else (none)))))) else (none))) else (none)))) else (none))))) else (none))) else (none))) else (none))) else (none)) else (none)))) = some r := by first|(rw [hy153];with_reducible exact H)|(have H2_ := (Option.bind_some _ _).symm.trans H;rw [hy153];with_reducible exact H2_)|(have H2_ := (Option.bind_some _ _).symm.trans H;with_reducible exact H2_)|with_reducible exact H|(rw [hy153];exact H)|exact H
 have Ny153 := Aside0.mk hy153
 clear hy153
 obtain ⟨y156,hy156⟩ : ∃ y_ : List (S47),y_ = (([(⟨(⟨#[97]⟩ : ByteArray),5⟩ : S47),(⟨(⟨#[98]⟩ : ByteArray),0⟩ : S47)] : List (S47))) := ⟨_,rfl⟩
 replace H : ((tree_Apply.f k y153 y156).bind fun bt159 => ((tree_Apply.f k y153 (([(⟨(⟨#[98]⟩ : ByteArray),0⟩ : S47),(⟨(⟨#[98]⟩ : ByteArray),0⟩ : S47)] : List (S47)))).bind fun bt166 => (if bt159.2 = 0 then (if bt166.2 = 8 then ((codesearchref25_Files.f k bt159.1 (([(⟨(⟨#[97]⟩ : ByteArray),5⟩ : S45)] : List (S45)))).bind fun t173 => (if t173 = true then ((tree_Right.f k (([(⟨(⟨#[97,47,98]⟩ : ByteArray),1⟩ : S45),(⟨(⟨#[97,46,99]⟩ : ByteArray),2⟩ : S45)] : List (S45)))).bind fun t177 => (if t177 = 7 then ((tree_Right.f k (([(⟨(⟨#[97]⟩ : ByteArray),1⟩ : S45),(⟨(⟨#[97,47,98]⟩ : ByteArray),2⟩ : S45)] : List (S45)))).bind fun t181 => (if t181 = 14 then ((some (([(⟨(⟨#[97,47,120]⟩ : ByteArray),1⟩ : S45),(⟨(⟨#[97,47,121,47,122]⟩ : ByteArray),1⟩ : S45),(⟨(⟨#[98]⟩ : ByteArray),1⟩ : S45)] : List (S45)) : List (S45))).bind fun y182 => ((tree_Names.f k y182 (⟨#[]⟩ : ByteArray)).bind fun t185 => ((codesearchref01_Strings.f k t185 (([(⟨#[97]⟩ : ByteArray),(⟨#[98]⟩ : ByteArray)] : List ByteArray))).bind fun t191 => (if t191 = true then ((tree_Names.f k y182 (⟨#[97]⟩ : ByteArray)).bind fun t192 => ((codesearchref01_Strings.f k t192 (([(⟨#[120]⟩ : ByteArray),(⟨#[121]⟩ : ByteArray)] : List ByteArray))).bind fun t198 => (if t198 = true then ((tree_Under.f k y182 (⟨#[97]⟩ : ByteArray)).bind fun t199 => (if (t199.length : Int) = 2 then ((tree_Get.f k y182 (⟨#[98]⟩ : ByteArray)).bind fun bt202 => ((tree_Merge.f (([(⟨(⟨#[97]⟩ : ByteArray),1⟩ : S45),(⟨(⟨#[98]⟩ : ByteArray),1⟩ : S45)] : List (S45))) (([(⟨(⟨#[97]⟩ : ByteArray),2⟩ : S45),(⟨(⟨#[98]⟩ : ByteArray),1⟩ : S45)] : List (S45))) (([(⟨(⟨#[97]⟩ : ByteArray),3⟩ : S45),(⟨(⟨#[99]⟩ : ByteArray),3⟩ : S45)] : List (S45)))).bind fun bt213 => ((tree_Diff.f y153 bt159.1).bind fun t219 => ((codesearchref25_Changes.f k t219 (([(⟨(⟨#[97]⟩ : ByteArray),5⟩ : S47),(⟨(⟨#[98]⟩ : ByteArray),0⟩ : S47)] : List (S47)))).bind fun t225 => (if t225 = true then (if bt202.1 = 1 then (if bt202.2 = true then ((codesearchref25_Files.f k bt213.1 (([(⟨(⟨#[97]⟩ : ByteArray),2⟩ : S45),(⟨(⟨#[99]⟩ : ByteArray),3⟩ : S45)] : List (S45)))).bind fun t229 => (if t229 = true then ((codesearchref01_Strings.f k bt213.2 (([(⟨#[97]⟩ : ByteArray)] : List ByteArray))).bind fun t233 => (some t233)) else (none))) else (none)) else (none)) else (none)))))) else (none))) else (none)))) else (none))))) else (none))) else (none))) else (none))) else (none)) else (none)))) = some r := by first|(rw [hy156];with_reducible exact H)|(have H2_ := (Option.bind_some _ _).symm.trans H;rw [hy156];with_reducible exact H2_)|(have H2_ := (Option.bind_some _ _).symm.trans H;with_reducible exact H2_)|with_reducible exact H|(rw [hy156];exact H)|exact H
 have Ny156 := Aside0.mk hy156
 clear hy156
 replace H := Option.bind_eq_some_iff.mp H
 obtain ⟨⟨t159,t160⟩,A10,H⟩ := H
 replace H : ((tree_Apply.f k y153 (([(⟨(⟨#[98]⟩ : ByteArray),0⟩ : S47),(⟨(⟨#[98]⟩ : ByteArray),0⟩ : S47)] : List (S47)))).bind fun bt166 => (if t160 = 0 then (if bt166.2 = 8 then ((codesearchref25_Files.f k t159 (([(⟨(⟨#[97]⟩ : ByteArray),5⟩ : S45)] : List (S45)))).bind fun t173 => (if t173 = true then ((tree_Right.f k (([(⟨(⟨#[97,47,98]⟩ : ByteArray),1⟩ : S45),(⟨(⟨#[97,46,99]⟩ : ByteArray),2⟩ : S45)] : List (S45)))).bind fun t177 => (if t177 = 7 then ((tree_Right.f k (([(⟨(⟨#[97]⟩ : ByteArray),1⟩ : S45),(⟨(⟨#[97,47,98]⟩ : ByteArray),2⟩ : S45)] : List (S45)))).bind fun t181 => (if t181 = 14 then ((some (([(⟨(⟨#[97,47,120]⟩ : ByteArray),1⟩ : S45),(⟨(⟨#[97,47,121,47,122]⟩ : ByteArray),1⟩ : S45),(⟨(⟨#[98]⟩ : ByteArray),1⟩ : S45)] : List (S45)) : List (S45))).bind fun y182 => ((tree_Names.f k y182 (⟨#[]⟩ : ByteArray)).bind fun t185 => ((codesearchref01_Strings.f k t185 (([(⟨#[97]⟩ : ByteArray),(⟨#[98]⟩ : ByteArray)] : List ByteArray))).bind fun t191 => (if t191 = true then ((tree_Names.f k y182 (⟨#[97]⟩ : ByteArray)).bind fun t192 => ((codesearchref01_Strings.f k t192 (([(⟨#[120]⟩ : ByteArray),(⟨#[121]⟩ : ByteArray)] : List ByteArray))).bind fun t198 => (if t198 = true then ((tree_Under.f k y182 (⟨#[97]⟩ : ByteArray)).bind fun t199 => (if (t199.length : Int) = 2 then ((tree_Get.f k y182 (⟨#[98]⟩ : ByteArray)).bind fun bt202 => ((tree_Merge.f (([(⟨(⟨#[97]⟩ : ByteArray),1⟩ : S45),(⟨(⟨#[98]⟩ : ByteArray),1⟩ : S45)] : List (S45))) (([(⟨(⟨#[97]⟩ : ByteArray),2⟩ : S45),(⟨(⟨#[98]⟩ : ByteArray),1⟩ : S45)] : List (S45))) (([(⟨(⟨#[97]⟩ : ByteArray),3⟩ : S45),(⟨(⟨#[99]⟩ : ByteArray),3⟩ : S45)] : List (S45)))).bind fun bt213 => ((tree_Diff.f y153 t159).bind fun t219 => ((codesearchref25_Changes.f k t219 (([(⟨(⟨#[97]⟩ : ByteArray),5⟩ : S47),(⟨(⟨#[98]⟩ : ByteArray),0⟩ : S47)] : List (S47)))).bind fun t225 => (if t225 = true then (if bt202.1 = 1 then (if bt202.2 = true then ((codesearchref25_Files.f k bt213.1 (([(⟨(⟨#[97]⟩ : ByteArray),2⟩ : S45),(⟨(⟨#[99]⟩ : ByteArray),3⟩ : S45)] : List (S45)))).bind fun t229 => (if t229 = true then ((codesearchref01_Strings.f k bt213.2 (([(⟨#[97]⟩ : ByteArray)] : List ByteArray))).bind fun t233 => (some t233)) else (none))) else (none)) else (none)) else (none)))))) else (none))) else (none)))) else (none))))) else (none))) else (none))) else (none))) else (none)) else (none))) = some r := H
 have A1 := Aside0.mk A10
 clear A10
 obtain ⟨y163,hy163⟩ : ∃ y_ : List (S47),y_ = (([(⟨(⟨#[98]⟩ : ByteArray),0⟩ : S47),(⟨(⟨#[98]⟩ : ByteArray),0⟩ : S47)] : List (S47))) := ⟨_,rfl⟩
 replace H : ((tree_Apply.f k y153 y163).bind fun bt166 => (if t160 = 0 then (if bt166.2 = 8 then ((codesearchref25_Files.f k t159 (([(⟨(⟨#[97]⟩ : ByteArray),5⟩ : S45)] : List (S45)))).bind fun t173 => (if t173 = true then ((tree_Right.f k (([(⟨(⟨#[97,47,98]⟩ : ByteArray),1⟩ : S45),(⟨(⟨#[97,46,99]⟩ : ByteArray),2⟩ : S45)] : List (S45)))).bind fun t177 => (if t177 = 7 then ((tree_Right.f k (([(⟨(⟨#[97]⟩ : ByteArray),1⟩ : S45),(⟨(⟨#[97,47,98]⟩ : ByteArray),2⟩ : S45)] : List (S45)))).bind fun t181 => (if t181 = 14 then ((some (([(⟨(⟨#[97,47,120]⟩ : ByteArray),1⟩ : S45),(⟨(⟨#[97,47,121,47,122]⟩ : ByteArray),1⟩ : S45),(⟨(⟨#[98]⟩ : ByteArray),1⟩ : S45)] : List (S45)) : List (S45))).bind fun y182 => ((tree_Names.f k y182 (⟨#[]⟩ : ByteArray)).bind fun t185 => ((codesearchref01_Strings.f k t185 (([(⟨#[97]⟩ : ByteArray),(⟨#[98]⟩ : ByteArray)] : List ByteArray))).bind fun t191 => (if t191 = true then ((tree_Names.f k y182 (⟨#[97]⟩ : ByteArray)).bind fun t192 => ((codesearchref01_Strings.f k t192 (([(⟨#[120]⟩ : ByteArray),(⟨#[121]⟩ : ByteArray)] : List ByteArray))).bind fun t198 => (if t198 = true then ((tree_Under.f k y182 (⟨#[97]⟩ : ByteArray)).bind fun t199 => (if (t199.length : Int) = 2 then ((tree_Get.f k y182 (⟨#[98]⟩ : ByteArray)).bind fun bt202 => ((tree_Merge.f (([(⟨(⟨#[97]⟩ : ByteArray),1⟩ : S45),(⟨(⟨#[98]⟩ : ByteArray),1⟩ : S45)] : List (S45))) (([(⟨(⟨#[97]⟩ : ByteArray),2⟩ : S45),(⟨(⟨#[98]⟩ : ByteArray),1⟩ : S45)] : List (S45))) (([(⟨(⟨#[97]⟩ : ByteArray),3⟩ : S45),(⟨(⟨#[99]⟩ : ByteArray),3⟩ : S45)] : List (S45)))).bind fun bt213 => ((tree_Diff.f y153 t159).bind fun t219 => ((codesearchref25_Changes.f k t219 (([(⟨(⟨#[97]⟩ : ByteArray),5⟩ : S47),(⟨(⟨#[98]⟩ : ByteArray),0⟩ : S47)] : List (S47)))).bind fun t225 => (if t225 = true then (if bt202.1 = 1 then (if bt202.2 = true then ((codesearchref25_Files.f k bt213.1 (([(⟨(⟨#[97]⟩ : ByteArray),2⟩ : S45),(⟨(⟨#[99]⟩ : ByteArray),3⟩ : S45)] : List (S45)))).bind fun t229 => (if t229 = true then ((codesearchref01_Strings.f k bt213.2 (([(⟨#[97]⟩ : ByteArray)] : List ByteArray))).bind fun t233 => (some t233)) else (none))) else (none)) else (none)) else (none)))))) else (none))) else (none)))) else (none))))) else (none))) else (none))) else (none))) else (none)) else (none))) = some r := by first|(rw [hy163];with_reducible exact H)|(have H2_ := (Option.bind_some _ _).symm.trans H;rw [hy163];with_reducible exact H2_)|(have H2_ := (Option.bind_some _ _).symm.trans H;with_reducible exact H2_)|with_reducible exact H|(rw [hy163];exact H)|exact H
 have Ny163 := Aside0.mk hy163
 clear hy163
 replace H := Option.bind_eq_some_iff.mp H
 obtain ⟨⟨t166,t167⟩,A20,H⟩ := H
 replace H : (if t160 = 0 then (if t167 = 8 then ((codesearchref25_Files.f k t159 (([(⟨(⟨#[97]⟩ : ByteArray),5⟩ : S45)] : List (S45)))).bind fun t173 => (if t173 = true then ((tree_Right.f k (([(⟨(⟨#[97,47,98]⟩ : ByteArray),1⟩ : S45),(⟨(⟨#[97,46,99]⟩ : ByteArray),2⟩ : S45)] : List (S45)))).bind fun t177 => (if t177 = 7 then ((tree_Right.f k (([(⟨(⟨#[97]⟩ : ByteArray),1⟩ : S45),(⟨(⟨#[97,47,98]⟩ : ByteArray),2⟩ : S45)] : List (S45)))).bind fun t181 => (if t181 = 14 then ((some (([(⟨(⟨#[97,47,120]⟩ : ByteArray),1⟩ : S45),(⟨(⟨#[97,47,121,47,122]⟩ : ByteArray),1⟩ : S45),(⟨(⟨#[98]⟩ : ByteArray),1⟩ : S45)] : List (S45)) : List (S45))).bind fun y182 => ((tree_Names.f k y182 (⟨#[]⟩ : ByteArray)).bind fun t185 => ((codesearchref01_Strings.f k t185 (([(⟨#[97]⟩ : ByteArray),(⟨#[98]⟩ : ByteArray)] : List ByteArray))).bind fun t191 => (if t191 = true then ((tree_Names.f k y182 (⟨#[97]⟩ : ByteArray)).bind fun t192 => ((codesearchref01_Strings.f k t192 (([(⟨#[120]⟩ : ByteArray),(⟨#[121]⟩ : ByteArray)] : List ByteArray))).bind fun t198 => (if t198 = true then ((tree_Under.f k y182 (⟨#[97]⟩ : ByteArray)).bind fun t199 => (if (t199.length : Int) = 2 then ((tree_Get.f k y182 (⟨#[98]⟩ : ByteArray)).bind fun bt202 => ((tree_Merge.f (([(⟨(⟨#[97]⟩ : ByteArray),1⟩ : S45),(⟨(⟨#[98]⟩ : ByteArray),1⟩ : S45)] : List (S45))) (([(⟨(⟨#[97]⟩ : ByteArray),2⟩ : S45),(⟨(⟨#[98]⟩ : ByteArray),1⟩ : S45)] : List (S45))) (([(⟨(⟨#[97]⟩ : ByteArray),3⟩ : S45),(⟨(⟨#[99]⟩ : ByteArray),3⟩ : S45)] : List (S45)))).bind fun bt213 => ((tree_Diff.f y153 t159).bind fun t219 => ((codesearchref25_Changes.f k t219 (([(⟨(⟨#[97]⟩ : ByteArray),5⟩ : S47),(⟨(⟨#[98]⟩ : ByteArray),0⟩ : S47)] : List (S47)))).bind fun t225 => (if t225 = true then (if bt202.1 = 1 then (if bt202.2 = true then ((codesearchref25_Files.f k bt213.1 (([(⟨(⟨#[97]⟩ : ByteArray),2⟩ : S45),(⟨(⟨#[99]⟩ : ByteArray),3⟩ : S45)] : List (S45)))).bind fun t229 => (if t229 = true then ((codesearchref01_Strings.f k bt213.2 (([(⟨#[97]⟩ : ByteArray)] : List ByteArray))).bind fun t233 => (some t233)) else (none))) else (none)) else (none)) else (none)))))) else (none))) else (none)))) else (none))))) else (none))) else (none))) else (none))) else (none)) else (none)) = some r := H
 have A2 := Aside0.mk A20
 clear A20
 by_cases c3 : t160 = 0
 ·rw [if_pos c3] at H
  have c3b0 : (t160 == 0) = true := beq_iff_eq.mpr c3
  have c3b1 : (t160 != 0) = false := bne_eq_false_iff_eq.mpr c3
  clear c3
  by_cases c4 : t167 = 8
  ·rw [if_pos c4] at H
   have c4b0 : (t167 == 8) = true := beq_iff_eq.mpr c4
   have c4b1 : (t167 != 8) = false := bne_eq_false_iff_eq.mpr c4
   clear c4
   obtain ⟨y170,hy170⟩ : ∃ y_ : List (S45),y_ = (([(⟨(⟨#[97]⟩ : ByteArray),5⟩ : S45)] : List (S45))) := ⟨_,rfl⟩
   replace H : ((codesearchref25_Files.f k t159 y170).bind fun t173 => (if t173 = true then ((tree_Right.f k (([(⟨(⟨#[97,47,98]⟩ : ByteArray),1⟩ : S45),(⟨(⟨#[97,46,99]⟩ : ByteArray),2⟩ : S45)] : List (S45)))).bind fun t177 => (if t177 = 7 then ((tree_Right.f k (([(⟨(⟨#[97]⟩ : ByteArray),1⟩ : S45),(⟨(⟨#[97,47,98]⟩ : ByteArray),2⟩ : S45)] : List (S45)))).bind fun t181 => (if t181 = 14 then ((some (([(⟨(⟨#[97,47,120]⟩ : ByteArray),1⟩ : S45),(⟨(⟨#[97,47,121,47,122]⟩ : ByteArray),1⟩ : S45),(⟨(⟨#[98]⟩ : ByteArray),1⟩ : S45)] : List (S45)) : List (S45))).bind fun y182 => ((tree_Names.f k y182 (⟨#[]⟩ : ByteArray)).bind fun t185 => ((codesearchref01_Strings.f k t185 (([(⟨#[97]⟩ : ByteArray),(⟨#[98]⟩ : ByteArray)] : List ByteArray))).bind fun t191 => (if t191 = true then ((tree_Names.f k y182 (⟨#[97]⟩ : ByteArray)).bind fun t192 => ((codesearchref01_Strings.f k t192 (([(⟨#[120]⟩ : ByteArray),(⟨#[121]⟩ : ByteArray)] : List ByteArray))).bind fun t198 => (if t198 = true then ((tree_Under.f k y182 (⟨#[97]⟩ : ByteArray)).bind fun t199 => (if (t199.length : Int) = 2 then ((tree_Get.f k y182 (⟨#[98]⟩ : ByteArray)).bind fun bt202 => ((tree_Merge.f (([(⟨(⟨#[97]⟩ : ByteArray),1⟩ : S45),(⟨(⟨#[98]⟩ : ByteArray),1⟩ : S45)] : List (S45))) (([(⟨(⟨#[97]⟩ : ByteArray),2⟩ : S45),(⟨(⟨#[98]⟩ : ByteArray),1⟩ : S45)] : List (S45))) (([(⟨(⟨#[97]⟩ : ByteArray),3⟩ : S45),(⟨(⟨#[99]⟩ : ByteArray),3⟩ : S45)] : List (S45)))).bind fun bt213 => ((tree_Diff.f y153 t159).bind fun t219 => ((codesearchref25_Changes.f k t219 (([(⟨(⟨#[97]⟩ : ByteArray),5⟩ : S47),(⟨(⟨#[98]⟩ : ByteArray),0⟩ : S47)] : List (S47)))).bind fun t225 => (if t225 = true then (if bt202.1 = 1 then (if bt202.2 = true then ((codesearchref25_Files.f k bt213.1 (([(⟨(⟨#[97]⟩ : ByteArray),2⟩ : S45),(⟨(⟨#[99]⟩ : ByteArray),3⟩ : S45)] : List (S45)))).bind fun t229 => (if t229 = true then ((codesearchref01_Strings.f k bt213.2 (([(⟨#[97]⟩ : ByteArray)] : List ByteArray))).bind fun t233 => (some t233)) else (none))) else (none)) else (none)) else (none)))))) else (none))) else (none)))) else (none))))) else (none))) else (none))) else (none))) = some r := by first|(rw [hy170];with_reducible exact H)|(have H2_ := (Option.bind_some _ _).symm.trans H;rw [hy170];with_reducible exact H2_)|(have H2_ := (Option.bind_some _ _).symm.trans H;with_reducible exact H2_)|with_reducible exact H|(rw [hy170];exact H)|exact H
   have Ny170 := Aside0.mk hy170
   clear hy170
   replace H := Option.bind_eq_some_iff.mp H
   obtain ⟨t173,A50,H⟩ := H
   replace H : (if t173 = true then ((tree_Right.f k (([(⟨(⟨#[97,47,98]⟩ : ByteArray),1⟩ : S45),(⟨(⟨#[97,46,99]⟩ : ByteArray),2⟩ : S45)] : List (S45)))).bind fun t177 => (if t177 = 7 then ((tree_Right.f k (([(⟨(⟨#[97]⟩ : ByteArray),1⟩ : S45),(⟨(⟨#[97,47,98]⟩ : ByteArray),2⟩ : S45)] : List (S45)))).bind fun t181 => (if t181 = 14 then ((some (([(⟨(⟨#[97,47,120]⟩ : ByteArray),1⟩ : S45),(⟨(⟨#[97,47,121,47,122]⟩ : ByteArray),1⟩ : S45),(⟨(⟨#[98]⟩ : ByteArray),1⟩ : S45)] : List (S45)) : List (S45))).bind fun y182 => ((tree_Names.f k y182 (⟨#[]⟩ : ByteArray)).bind fun t185 => ((codesearchref01_Strings.f k t185 (([(⟨#[97]⟩ : ByteArray),(⟨#[98]⟩ : ByteArray)] : List ByteArray))).bind fun t191 => (if t191 = true then ((tree_Names.f k y182 (⟨#[97]⟩ : ByteArray)).bind fun t192 => ((codesearchref01_Strings.f k t192 (([(⟨#[120]⟩ : ByteArray),(⟨#[121]⟩ : ByteArray)] : List ByteArray))).bind fun t198 => (if t198 = true then ((tree_Under.f k y182 (⟨#[97]⟩ : ByteArray)).bind fun t199 => (if (t199.length : Int) = 2 then ((tree_Get.f k y182 (⟨#[98]⟩ : ByteArray)).bind fun bt202 => ((tree_Merge.f (([(⟨(⟨#[97]⟩ : ByteArray),1⟩ : S45),(⟨(⟨#[98]⟩ : ByteArray),1⟩ : S45)] : List (S45))) (([(⟨(⟨#[97]⟩ : ByteArray),2⟩ : S45),(⟨(⟨#[98]⟩ : ByteArray),1⟩ : S45)] : List (S45))) (([(⟨(⟨#[97]⟩ : ByteArray),3⟩ : S45),(⟨(⟨#[99]⟩ : ByteArray),3⟩ : S45)] : List (S45)))).bind fun bt213 => ((tree_Diff.f y153 t159).bind fun t219 => ((codesearchref25_Changes.f k t219 (([(⟨(⟨#[97]⟩ : ByteArray),5⟩ : S47),(⟨(⟨#[98]⟩ : ByteArray),0⟩ : S47)] : List (S47)))).bind fun t225 => (if t225 = true then (if bt202.1 = 1 then (if bt202.2 = true then ((codesearchref25_Files.f k bt213.1 (([(⟨(⟨#[97]⟩ : ByteArray),2⟩ : S45),(⟨(⟨#[99]⟩ : ByteArray),3⟩ : S45)] : List (S45)))).bind fun t229 => (if t229 = true then ((codesearchref01_Strings.f k bt213.2 (([(⟨#[97]⟩ : ByteArray)] : List ByteArray))).bind fun t233 => (some t233)) else (none))) else (none)) else (none)) else (none)))))) else (none))) else (none)))) else (none))))) else (none))) else (none))) else (none)) = some r := H
   have A5 := Aside0.mk A50
   clear A50
   by_cases c6 : t173 = true
   ·subst c6
    have H1 : ((tree_Right.f k (([(⟨(⟨#[97,47,98]⟩ : ByteArray),1⟩ : S45),(⟨(⟨#[97,46,99]⟩ : ByteArray),2⟩ : S45)] : List (S45)))).bind fun t177 => (if t177 = 7 then ((tree_Right.f k (([(⟨(⟨#[97]⟩ : ByteArray),1⟩ : S45),(⟨(⟨#[97,47,98]⟩ : ByteArray),2⟩ : S45)] : List (S45)))).bind fun t181 => (if t181 = 14 then ((some (([(⟨(⟨#[97,47,120]⟩ : ByteArray),1⟩ : S45),(⟨(⟨#[97,47,121,47,122]⟩ : ByteArray),1⟩ : S45),(⟨(⟨#[98]⟩ : ByteArray),1⟩ : S45)] : List (S45)) : List (S45))).bind fun y182 => ((tree_Names.f k y182 (⟨#[]⟩ : ByteArray)).bind fun t185 => ((codesearchref01_Strings.f k t185 (([(⟨#[97]⟩ : ByteArray),(⟨#[98]⟩ : ByteArray)] : List ByteArray))).bind fun t191 => (if t191 = true then ((tree_Names.f k y182 (⟨#[97]⟩ : ByteArray)).bind fun t192 => ((codesearchref01_Strings.f k t192 (([(⟨#[120]⟩ : ByteArray),(⟨#[121]⟩ : ByteArray)] : List ByteArray))).bind fun t198 => (if t198 = true then ((tree_Under.f k y182 (⟨#[97]⟩ : ByteArray)).bind fun t199 => (if (t199.length : Int) = 2 then ((tree_Get.f k y182 (⟨#[98]⟩ : ByteArray)).bind fun bt202 => ((tree_Merge.f (([(⟨(⟨#[97]⟩ : ByteArray),1⟩ : S45),(⟨(⟨#[98]⟩ : ByteArray),1⟩ : S45)] : List (S45))) (([(⟨(⟨#[97]⟩ : ByteArray),2⟩ : S45),(⟨(⟨#[98]⟩ : ByteArray),1⟩ : S45)] : List (S45))) (([(⟨(⟨#[97]⟩ : ByteArray),3⟩ : S45),(⟨(⟨#[99]⟩ : ByteArray),3⟩ : S45)] : List (S45)))).bind fun bt213 => ((tree_Diff.f y153 t159).bind fun t219 => ((codesearchref25_Changes.f k t219 (([(⟨(⟨#[97]⟩ : ByteArray),5⟩ : S47),(⟨(⟨#[98]⟩ : ByteArray),0⟩ : S47)] : List (S47)))).bind fun t225 => (if t225 = true then (if bt202.1 = 1 then (if bt202.2 = true then ((codesearchref25_Files.f k bt213.1 (([(⟨(⟨#[97]⟩ : ByteArray),2⟩ : S45),(⟨(⟨#[99]⟩ : ByteArray),3⟩ : S45)] : List (S45)))).bind fun t229 => (if t229 = true then ((codesearchref01_Strings.f k bt213.2 (([(⟨#[97]⟩ : ByteArray)] : List ByteArray))).bind fun t233 => (some t233)) else (none))) else (none)) else (none)) else (none)))))) else (none))) else (none)))) else (none))))) else (none))) else (none))) = some r := by rw [if_pos rfl] at H;exact H
    clear H
    have H := H1
    clear H1
    obtain ⟨y174,hy174⟩ : ∃ y_ : List (S45),y_ = (([(⟨(⟨#[97,47,98]⟩ : ByteArray),1⟩ : S45),(⟨(⟨#[97,46,99]⟩ : ByteArray),2⟩ : S45)] : List (S45))) := ⟨_,rfl⟩
    replace H : ((tree_Right.f k y174).bind fun t177 => (if t177 = 7 then ((tree_Right.f k (([(⟨(⟨#[97]⟩ : ByteArray),1⟩ : S45),(⟨(⟨#[97,47,98]⟩ : ByteArray),2⟩ : S45)] : List (S45)))).bind fun t181 => (if t181 = 14 then ((some (([(⟨(⟨#[97,47,120]⟩ : ByteArray),1⟩ : S45),(⟨(⟨#[97,47,121,47,122]⟩ : ByteArray),1⟩ : S45),(⟨(⟨#[98]⟩ : ByteArray),1⟩ : S45)] : List (S45)) : List (S45))).bind fun y182 => ((tree_Names.f k y182 (⟨#[]⟩ : ByteArray)).bind fun t185 => ((codesearchref01_Strings.f k t185 (([(⟨#[97]⟩ : ByteArray),(⟨#[98]⟩ : ByteArray)] : List ByteArray))).bind fun t191 => (if t191 = true then ((tree_Names.f k y182 (⟨#[97]⟩ : ByteArray)).bind fun t192 => ((codesearchref01_Strings.f k t192 (([(⟨#[120]⟩ : ByteArray),(⟨#[121]⟩ : ByteArray)] : List ByteArray))).bind fun t198 => (if t198 = true then ((tree_Under.f k y182 (⟨#[97]⟩ : ByteArray)).bind fun t199 => (if (t199.length : Int) = 2 then ((tree_Get.f k y182 (⟨#[98]⟩ : ByteArray)).bind fun bt202 => ((tree_Merge.f (([(⟨(⟨#[97]⟩ : ByteArray),1⟩ : S45),(⟨(⟨#[98]⟩ : ByteArray),1⟩ : S45)] : List (S45))) (([(⟨(⟨#[97]⟩ : ByteArray),2⟩ : S45),(⟨(⟨#[98]⟩ : ByteArray),1⟩ : S45)] : List (S45))) (([(⟨(⟨#[97]⟩ : ByteArray),3⟩ : S45),(⟨(⟨#[99]⟩ : ByteArray),3⟩ : S45)] : List (S45)))).bind fun bt213 => ((tree_Diff.f y153 t159).bind fun t219 => ((codesearchref25_Changes.f k t219 (([(⟨(⟨#[97]⟩ : ByteArray),5⟩ : S47),(⟨(⟨#[98]⟩ : ByteArray),0⟩ : S47)] : List (S47)))).bind fun t225 => (if t225 = true then (if bt202.1 = 1 then (if bt202.2 = true then ((codesearchref25_Files.f k bt213.1 (([(⟨(⟨#[97]⟩ : ByteArray),2⟩ : S45),(⟨(⟨#[99]⟩ : ByteArray),3⟩ : S45)] : List (S45)))).bind fun t229 => (if t229 = true then ((codesearchref01_Strings.f k bt213.2 (([(⟨#[97]⟩ : ByteArray)] : List ByteArray))).bind fun t233 => (some t233)) else (none))) else (none)) else (none)) else (none)))))) else (none))) else (none)))) else (none))))) else (none))) else (none))) = some r := by first|(rw [hy174];with_reducible exact H)|(have H2_ := (Option.bind_some _ _).symm.trans H;rw [hy174];with_reducible exact H2_)|(have H2_ := (Option.bind_some _ _).symm.trans H;with_reducible exact H2_)|with_reducible exact H|(rw [hy174];exact H)|exact H
    have Ny174 := Aside0.mk hy174
    clear hy174
    replace H := Option.bind_eq_some_iff.mp H
    obtain ⟨t177,A70,H⟩ := H
    replace H : (if t177 = 7 then ((tree_Right.f k (([(⟨(⟨#[97]⟩ : ByteArray),1⟩ : S45),(⟨(⟨#[97,47,98]⟩ : ByteArray),2⟩ : S45)] : List (S45)))).bind fun t181 => (if t181 = 14 then ((some (([(⟨(⟨#[97,47,120]⟩ : ByteArray),1⟩ : S45),(⟨(⟨#[97,47,121,47,122]⟩ : ByteArray),1⟩ : S45),(⟨(⟨#[98]⟩ : ByteArray),1⟩ : S45)] : List (S45)) : List (S45))).bind fun y182 => ((tree_Names.f k y182 (⟨#[]⟩ : ByteArray)).bind fun t185 => ((codesearchref01_Strings.f k t185 (([(⟨#[97]⟩ : ByteArray),(⟨#[98]⟩ : ByteArray)] : List ByteArray))).bind fun t191 => (if t191 = true then ((tree_Names.f k y182 (⟨#[97]⟩ : ByteArray)).bind fun t192 => ((codesearchref01_Strings.f k t192 (([(⟨#[120]⟩ : ByteArray),(⟨#[121]⟩ : ByteArray)] : List ByteArray))).bind fun t198 => (if t198 = true then ((tree_Under.f k y182 (⟨#[97]⟩ : ByteArray)).bind fun t199 => (if (t199.length : Int) = 2 then ((tree_Get.f k y182 (⟨#[98]⟩ : ByteArray)).bind fun bt202 => ((tree_Merge.f (([(⟨(⟨#[97]⟩ : ByteArray),1⟩ : S45),(⟨(⟨#[98]⟩ : ByteArray),1⟩ : S45)] : List (S45))) (([(⟨(⟨#[97]⟩ : ByteArray),2⟩ : S45),(⟨(⟨#[98]⟩ : ByteArray),1⟩ : S45)] : List (S45))) (([(⟨(⟨#[97]⟩ : ByteArray),3⟩ : S45),(⟨(⟨#[99]⟩ : ByteArray),3⟩ : S45)] : List (S45)))).bind fun bt213 => ((tree_Diff.f y153 t159).bind fun t219 => ((codesearchref25_Changes.f k t219 (([(⟨(⟨#[97]⟩ : ByteArray),5⟩ : S47),(⟨(⟨#[98]⟩ : ByteArray),0⟩ : S47)] : List (S47)))).bind fun t225 => (if t225 = true then (if bt202.1 = 1 then (if bt202.2 = true then ((codesearchref25_Files.f k bt213.1 (([(⟨(⟨#[97]⟩ : ByteArray),2⟩ : S45),(⟨(⟨#[99]⟩ : ByteArray),3⟩ : S45)] : List (S45)))).bind fun t229 => (if t229 = true then ((codesearchref01_Strings.f k bt213.2 (([(⟨#[97]⟩ : ByteArray)] : List ByteArray))).bind fun t233 => (some t233)) else (none))) else (none)) else (none)) else (none)))))) else (none))) else (none)))) else (none))))) else (none))) else (none)) = some r := H
    have A7 := Aside0.mk A70
    clear A70
    by_cases c8 : t177 = 7
    ·rw [if_pos c8] at H
     have c8b0 : (t177 == 7) = true := beq_iff_eq.mpr c8
     have c8b1 : (t177 != 7) = false := bne_eq_false_iff_eq.mpr c8
     clear c8
     obtain ⟨y178,hy178⟩ : ∃ y_ : List (S45),y_ = (([(⟨(⟨#[97]⟩ : ByteArray),1⟩ : S45),(⟨(⟨#[97,47,98]⟩ : ByteArray),2⟩ : S45)] : List (S45))) := ⟨_,rfl⟩
     replace H : ((tree_Right.f k y178).bind fun t181 => (if t181 = 14 then ((some (([(⟨(⟨#[97,47,120]⟩ : ByteArray),1⟩ : S45),(⟨(⟨#[97,47,121,47,122]⟩ : ByteArray),1⟩ : S45),(⟨(⟨#[98]⟩ : ByteArray),1⟩ : S45)] : List (S45)) : List (S45))).bind fun y182 => ((tree_Names.f k y182 (⟨#[]⟩ : ByteArray)).bind fun t185 => ((codesearchref01_Strings.f k t185 (([(⟨#[97]⟩ : ByteArray),(⟨#[98]⟩ : ByteArray)] : List ByteArray))).bind fun t191 => (if t191 = true then ((tree_Names.f k y182 (⟨#[97]⟩ : ByteArray)).bind fun t192 => ((codesearchref01_Strings.f k t192 (([(⟨#[120]⟩ : ByteArray),(⟨#[121]⟩ : ByteArray)] : List ByteArray))).bind fun t198 => (if t198 = true then ((tree_Under.f k y182 (⟨#[97]⟩ : ByteArray)).bind fun t199 => (if (t199.length : Int) = 2 then ((tree_Get.f k y182 (⟨#[98]⟩ : ByteArray)).bind fun bt202 => ((tree_Merge.f (([(⟨(⟨#[97]⟩ : ByteArray),1⟩ : S45),(⟨(⟨#[98]⟩ : ByteArray),1⟩ : S45)] : List (S45))) (([(⟨(⟨#[97]⟩ : ByteArray),2⟩ : S45),(⟨(⟨#[98]⟩ : ByteArray),1⟩ : S45)] : List (S45))) (([(⟨(⟨#[97]⟩ : ByteArray),3⟩ : S45),(⟨(⟨#[99]⟩ : ByteArray),3⟩ : S45)] : List (S45)))).bind fun bt213 => ((tree_Diff.f y153 t159).bind fun t219 => ((codesearchref25_Changes.f k t219 (([(⟨(⟨#[97]⟩ : ByteArray),5⟩ : S47),(⟨(⟨#[98]⟩ : ByteArray),0⟩ : S47)] : List (S47)))).bind fun t225 => (if t225 = true then (if bt202.1 = 1 then (if bt202.2 = true then ((codesearchref25_Files.f k bt213.1 (([(⟨(⟨#[97]⟩ : ByteArray),2⟩ : S45),(⟨(⟨#[99]⟩ : ByteArray),3⟩ : S45)] : List (S45)))).bind fun t229 => (if t229 = true then ((codesearchref01_Strings.f k bt213.2 (([(⟨#[97]⟩ : ByteArray)] : List ByteArray))).bind fun t233 => (some t233)) else (none))) else (none)) else (none)) else (none)))))) else (none))) else (none)))) else (none))))) else (none))) = some r := by first|(rw [hy178];with_reducible exact H)|(have H2_ := (Option.bind_some _ _).symm.trans H;rw [hy178];with_reducible exact H2_)|(have H2_ := (Option.bind_some _ _).symm.trans H;with_reducible exact H2_)|with_reducible exact H|(rw [hy178];exact H)|exact H
     have Ny178 := Aside0.mk hy178
     clear hy178
     replace H := Option.bind_eq_some_iff.mp H
     obtain ⟨t181,A90,H⟩ := H
     replace H : (if t181 = 14 then ((some (([(⟨(⟨#[97,47,120]⟩ : ByteArray),1⟩ : S45),(⟨(⟨#[97,47,121,47,122]⟩ : ByteArray),1⟩ : S45),(⟨(⟨#[98]⟩ : ByteArray),1⟩ : S45)] : List (S45)) : List (S45))).bind fun y182 => ((tree_Names.f k y182 (⟨#[]⟩ : ByteArray)).bind fun t185 => ((codesearchref01_Strings.f k t185 (([(⟨#[97]⟩ : ByteArray),(⟨#[98]⟩ : ByteArray)] : List ByteArray))).bind fun t191 => (if t191 = true then ((tree_Names.f k y182 (⟨#[97]⟩ : ByteArray)).bind fun t192 => ((codesearchref01_Strings.f k t192 (([(⟨#[120]⟩ : ByteArray),(⟨#[121]⟩ : ByteArray)] : List ByteArray))).bind fun t198 => (if t198 = true then ((tree_Under.f k y182 (⟨#[97]⟩ : ByteArray)).bind fun t199 => (if (t199.length : Int) = 2 then ((tree_Get.f k y182 (⟨#[98]⟩ : ByteArray)).bind fun bt202 => ((tree_Merge.f (([(⟨(⟨#[97]⟩ : ByteArray),1⟩ : S45),(⟨(⟨#[98]⟩ : ByteArray),1⟩ : S45)] : List (S45))) (([(⟨(⟨#[97]⟩ : ByteArray),2⟩ : S45),(⟨(⟨#[98]⟩ : ByteArray),1⟩ : S45)] : List (S45))) (([(⟨(⟨#[97]⟩ : ByteArray),3⟩ : S45),(⟨(⟨#[99]⟩ : ByteArray),3⟩ : S45)] : List (S45)))).bind fun bt213 => ((tree_Diff.f y153 t159).bind fun t219 => ((codesearchref25_Changes.f k t219 (([(⟨(⟨#[97]⟩ : ByteArray),5⟩ : S47),(⟨(⟨#[98]⟩ : ByteArray),0⟩ : S47)] : List (S47)))).bind fun t225 => (if t225 = true then (if bt202.1 = 1 then (if bt202.2 = true then ((codesearchref25_Files.f k bt213.1 (([(⟨(⟨#[97]⟩ : ByteArray),2⟩ : S45),(⟨(⟨#[99]⟩ : ByteArray),3⟩ : S45)] : List (S45)))).bind fun t229 => (if t229 = true then ((codesearchref01_Strings.f k bt213.2 (([(⟨#[97]⟩ : ByteArray)] : List ByteArray))).bind fun t233 => (some t233)) else (none))) else (none)) else (none)) else (none)))))) else (none))) else (none)))) else (none))))) else (none)) = some r := H
     have A9 := Aside0.mk A90
     clear A90
     by_cases c10 : t181 = 14
     ·rw [if_pos c10] at H
      have c10b0 : (t181 == 14) = true := beq_iff_eq.mpr c10
      have c10b1 : (t181 != 14) = false := bne_eq_false_iff_eq.mpr c10
      clear c10
      obtain ⟨y182,hy182⟩ : ∃ y_ : List (S45),y_ = (([(⟨(⟨#[97,47,120]⟩ : ByteArray),1⟩ : S45),(⟨(⟨#[97,47,121,47,122]⟩ : ByteArray),1⟩ : S45),(⟨(⟨#[98]⟩ : ByteArray),1⟩ : S45)] : List (S45))) := ⟨_,rfl⟩
      replace H : ((tree_Names.f k y182 (⟨#[]⟩ : ByteArray)).bind fun t185 => ((codesearchref01_Strings.f k t185 (([(⟨#[97]⟩ : ByteArray),(⟨#[98]⟩ : ByteArray)] : List ByteArray))).bind fun t191 => (if t191 = true then ((tree_Names.f k y182 (⟨#[97]⟩ : ByteArray)).bind fun t192 => ((codesearchref01_Strings.f k t192 (([(⟨#[120]⟩ : ByteArray),(⟨#[121]⟩ : ByteArray)] : List ByteArray))).bind fun t198 => (if t198 = true then ((tree_Under.f k y182 (⟨#[97]⟩ : ByteArray)).bind fun t199 => (if (t199.length : Int) = 2 then ((tree_Get.f k y182 (⟨#[98]⟩ : ByteArray)).bind fun bt202 => ((tree_Merge.f (([(⟨(⟨#[97]⟩ : ByteArray),1⟩ : S45),(⟨(⟨#[98]⟩ : ByteArray),1⟩ : S45)] : List (S45))) (([(⟨(⟨#[97]⟩ : ByteArray),2⟩ : S45),(⟨(⟨#[98]⟩ : ByteArray),1⟩ : S45)] : List (S45))) (([(⟨(⟨#[97]⟩ : ByteArray),3⟩ : S45),(⟨(⟨#[99]⟩ : ByteArray),3⟩ : S45)] : List (S45)))).bind fun bt213 => ((tree_Diff.f y153 t159).bind fun t219 => ((codesearchref25_Changes.f k t219 (([(⟨(⟨#[97]⟩ : ByteArray),5⟩ : S47),(⟨(⟨#[98]⟩ : ByteArray),0⟩ : S47)] : List (S47)))).bind fun t225 => (if t225 = true then (if bt202.1 = 1 then (if bt202.2 = true then ((codesearchref25_Files.f k bt213.1 (([(⟨(⟨#[97]⟩ : ByteArray),2⟩ : S45),(⟨(⟨#[99]⟩ : ByteArray),3⟩ : S45)] : List (S45)))).bind fun t229 => (if t229 = true then ((codesearchref01_Strings.f k bt213.2 (([(⟨#[97]⟩ : ByteArray)] : List ByteArray))).bind fun t233 => (some t233)) else (none))) else (none)) else (none)) else (none)))))) else (none))) else (none)))) else (none)))) = some r := by first|(rw [hy182];with_reducible exact H)|(have H2_ := (Option.bind_some _ _).symm.trans H;rw [hy182];with_reducible exact H2_)|(have H2_ := (Option.bind_some _ _).symm.trans H;with_reducible exact H2_)|with_reducible exact H|(rw [hy182];exact H)|exact H
      have Ny182 := Aside0.mk hy182
      clear hy182
      replace H := Option.bind_eq_some_iff.mp H
      obtain ⟨t185,A110,H⟩ := H
      replace H : ((codesearchref01_Strings.f k t185 (([(⟨#[97]⟩ : ByteArray),(⟨#[98]⟩ : ByteArray)] : List ByteArray))).bind fun t191 => (if t191 = true then ((tree_Names.f k y182 (⟨#[97]⟩ : ByteArray)).bind fun t192 => ((codesearchref01_Strings.f k t192 (([(⟨#[120]⟩ : ByteArray),(⟨#[121]⟩ : ByteArray)] : List ByteArray))).bind fun t198 => (if t198 = true then ((tree_Under.f k y182 (⟨#[97]⟩ : ByteArray)).bind fun t199 => (if (t199.length : Int) = 2 then ((tree_Get.f k y182 (⟨#[98]⟩ : ByteArray)).bind fun bt202 => ((tree_Merge.f (([(⟨(⟨#[97]⟩ : ByteArray),1⟩ : S45),(⟨(⟨#[98]⟩ : ByteArray),1⟩ : S45)] : List (S45))) (([(⟨(⟨#[97]⟩ : ByteArray),2⟩ : S45),(⟨(⟨#[98]⟩ : ByteArray),1⟩ : S45)] : List (S45))) (([(⟨(⟨#[97]⟩ : ByteArray),3⟩ : S45),(⟨(⟨#[99]⟩ : ByteArray),3⟩ : S45)] : List (S45)))).bind fun bt213 => ((tree_Diff.f y153 t159).bind fun t219 => ((codesearchref25_Changes.f k t219 (([(⟨(⟨#[97]⟩ : ByteArray),5⟩ : S47),(⟨(⟨#[98]⟩ : ByteArray),0⟩ : S47)] : List (S47)))).bind fun t225 => (if t225 = true then (if bt202.1 = 1 then (if bt202.2 = true then ((codesearchref25_Files.f k bt213.1 (([(⟨(⟨#[97]⟩ : ByteArray),2⟩ : S45),(⟨(⟨#[99]⟩ : ByteArray),3⟩ : S45)] : List (S45)))).bind fun t229 => (if t229 = true then ((codesearchref01_Strings.f k bt213.2 (([(⟨#[97]⟩ : ByteArray)] : List ByteArray))).bind fun t233 => (some t233)) else (none))) else (none)) else (none)) else (none)))))) else (none))) else (none)))) else (none))) = some r := H
      have A11 := Aside0.mk A110
      clear A110
      obtain ⟨y188,hy188⟩ : ∃ y_ : List ByteArray,y_ = (([(⟨#[97]⟩ : ByteArray),(⟨#[98]⟩ : ByteArray)] : List ByteArray)) := ⟨_,rfl⟩
      replace H : ((codesearchref01_Strings.f k t185 y188).bind fun t191 => (if t191 = true then ((tree_Names.f k y182 (⟨#[97]⟩ : ByteArray)).bind fun t192 => ((codesearchref01_Strings.f k t192 (([(⟨#[120]⟩ : ByteArray),(⟨#[121]⟩ : ByteArray)] : List ByteArray))).bind fun t198 => (if t198 = true then ((tree_Under.f k y182 (⟨#[97]⟩ : ByteArray)).bind fun t199 => (if (t199.length : Int) = 2 then ((tree_Get.f k y182 (⟨#[98]⟩ : ByteArray)).bind fun bt202 => ((tree_Merge.f (([(⟨(⟨#[97]⟩ : ByteArray),1⟩ : S45),(⟨(⟨#[98]⟩ : ByteArray),1⟩ : S45)] : List (S45))) (([(⟨(⟨#[97]⟩ : ByteArray),2⟩ : S45),(⟨(⟨#[98]⟩ : ByteArray),1⟩ : S45)] : List (S45))) (([(⟨(⟨#[97]⟩ : ByteArray),3⟩ : S45),(⟨(⟨#[99]⟩ : ByteArray),3⟩ : S45)] : List (S45)))).bind fun bt213 => ((tree_Diff.f y153 t159).bind fun t219 => ((codesearchref25_Changes.f k t219 (([(⟨(⟨#[97]⟩ : ByteArray),5⟩ : S47),(⟨(⟨#[98]⟩ : ByteArray),0⟩ : S47)] : List (S47)))).bind fun t225 => (if t225 = true then (if bt202.1 = 1 then (if bt202.2 = true then ((codesearchref25_Files.f k bt213.1 (([(⟨(⟨#[97]⟩ : ByteArray),2⟩ : S45),(⟨(⟨#[99]⟩ : ByteArray),3⟩ : S45)] : List (S45)))).bind fun t229 => (if t229 = true then ((codesearchref01_Strings.f k bt213.2 (([(⟨#[97]⟩ : ByteArray)] : List ByteArray))).bind fun t233 => (some t233)) else (none))) else (none)) else (none)) else (none)))))) else (none))) else (none)))) else (none))) = some r := by first|(rw [hy188];with_reducible exact H)|(have H2_ := (Option.bind_some _ _).symm.trans H;rw [hy188];with_reducible exact H2_)|(have H2_ := (Option.bind_some _ _).symm.trans H;with_reducible exact H2_)|with_reducible exact H|(rw [hy188];exact H)|exact H
      have Ny188 := Aside0.mk hy188
      clear hy188
      replace H := Option.bind_eq_some_iff.mp H
      obtain ⟨t191,A120,H⟩ := H
      replace H : (if t191 = true then ((tree_Names.f k y182 (⟨#[97]⟩ : ByteArray)).bind fun t192 => ((codesearchref01_Strings.f k t192 (([(⟨#[120]⟩ : ByteArray),(⟨#[121]⟩ : ByteArray)] : List ByteArray))).bind fun t198 => (if t198 = true then ((tree_Under.f k y182 (⟨#[97]⟩ : ByteArray)).bind fun t199 => (if (t199.length : Int) = 2 then ((tree_Get.f k y182 (⟨#[98]⟩ : ByteArray)).bind fun bt202 => ((tree_Merge.f (([(⟨(⟨#[97]⟩ : ByteArray),1⟩ : S45),(⟨(⟨#[98]⟩ : ByteArray),1⟩ : S45)] : List (S45))) (([(⟨(⟨#[97]⟩ : ByteArray),2⟩ : S45),(⟨(⟨#[98]⟩ : ByteArray),1⟩ : S45)] : List (S45))) (([(⟨(⟨#[97]⟩ : ByteArray),3⟩ : S45),(⟨(⟨#[99]⟩ : ByteArray),3⟩ : S45)] : List (S45)))).bind fun bt213 => ((tree_Diff.f y153 t159).bind fun t219 => ((codesearchref25_Changes.f k t219 (([(⟨(⟨#[97]⟩ : ByteArray),5⟩ : S47),(⟨(⟨#[98]⟩ : ByteArray),0⟩ : S47)] : List (S47)))).bind fun t225 => (if t225 = true then (if bt202.1 = 1 then (if bt202.2 = true then ((codesearchref25_Files.f k bt213.1 (([(⟨(⟨#[97]⟩ : ByteArray),2⟩ : S45),(⟨(⟨#[99]⟩ : ByteArray),3⟩ : S45)] : List (S45)))).bind fun t229 => (if t229 = true then ((codesearchref01_Strings.f k bt213.2 (([(⟨#[97]⟩ : ByteArray)] : List ByteArray))).bind fun t233 => (some t233)) else (none))) else (none)) else (none)) else (none)))))) else (none))) else (none)))) else (none)) = some r := H
      have A12 := Aside0.mk A120
      clear A120
      by_cases c13 : t191 = true
      ·subst c13
       have H1 : ((tree_Names.f k y182 (⟨#[97]⟩ : ByteArray)).bind fun t192 => ((codesearchref01_Strings.f k t192 (([(⟨#[120]⟩ : ByteArray),(⟨#[121]⟩ : ByteArray)] : List ByteArray))).bind fun t198 => (if t198 = true then ((tree_Under.f k y182 (⟨#[97]⟩ : ByteArray)).bind fun t199 => (if (t199.length : Int) = 2 then ((tree_Get.f k y182 (⟨#[98]⟩ : ByteArray)).bind fun bt202 => ((tree_Merge.f (([(⟨(⟨#[97]⟩ : ByteArray),1⟩ : S45),(⟨(⟨#[98]⟩ : ByteArray),1⟩ : S45)] : List (S45))) (([(⟨(⟨#[97]⟩ : ByteArray),2⟩ : S45),(⟨(⟨#[98]⟩ : ByteArray),1⟩ : S45)] : List (S45))) (([(⟨(⟨#[97]⟩ : ByteArray),3⟩ : S45),(⟨(⟨#[99]⟩ : ByteArray),3⟩ : S45)] : List (S45)))).bind fun bt213 => ((tree_Diff.f y153 t159).bind fun t219 => ((codesearchref25_Changes.f k t219 (([(⟨(⟨#[97]⟩ : ByteArray),5⟩ : S47),(⟨(⟨#[98]⟩ : ByteArray),0⟩ : S47)] : List (S47)))).bind fun t225 => (if t225 = true then (if bt202.1 = 1 then (if bt202.2 = true then ((codesearchref25_Files.f k bt213.1 (([(⟨(⟨#[97]⟩ : ByteArray),2⟩ : S45),(⟨(⟨#[99]⟩ : ByteArray),3⟩ : S45)] : List (S45)))).bind fun t229 => (if t229 = true then ((codesearchref01_Strings.f k bt213.2 (([(⟨#[97]⟩ : ByteArray)] : List ByteArray))).bind fun t233 => (some t233)) else (none))) else (none)) else (none)) else (none)))))) else (none))) else (none)))) = some r := by rw [if_pos rfl] at H;exact H
       clear H
       have H := H1
       clear H1
       replace H := Option.bind_eq_some_iff.mp H
       obtain ⟨t192,A140,H⟩ := H
       replace H : ((codesearchref01_Strings.f k t192 (([(⟨#[120]⟩ : ByteArray),(⟨#[121]⟩ : ByteArray)] : List ByteArray))).bind fun t198 => (if t198 = true then ((tree_Under.f k y182 (⟨#[97]⟩ : ByteArray)).bind fun t199 => (if (t199.length : Int) = 2 then ((tree_Get.f k y182 (⟨#[98]⟩ : ByteArray)).bind fun bt202 => ((tree_Merge.f (([(⟨(⟨#[97]⟩ : ByteArray),1⟩ : S45),(⟨(⟨#[98]⟩ : ByteArray),1⟩ : S45)] : List (S45))) (([(⟨(⟨#[97]⟩ : ByteArray),2⟩ : S45),(⟨(⟨#[98]⟩ : ByteArray),1⟩ : S45)] : List (S45))) (([(⟨(⟨#[97]⟩ : ByteArray),3⟩ : S45),(⟨(⟨#[99]⟩ : ByteArray),3⟩ : S45)] : List (S45)))).bind fun bt213 => ((tree_Diff.f y153 t159).bind fun t219 => ((codesearchref25_Changes.f k t219 (([(⟨(⟨#[97]⟩ : ByteArray),5⟩ : S47),(⟨(⟨#[98]⟩ : ByteArray),0⟩ : S47)] : List (S47)))).bind fun t225 => (if t225 = true then (if bt202.1 = 1 then (if bt202.2 = true then ((codesearchref25_Files.f k bt213.1 (([(⟨(⟨#[97]⟩ : ByteArray),2⟩ : S45),(⟨(⟨#[99]⟩ : ByteArray),3⟩ : S45)] : List (S45)))).bind fun t229 => (if t229 = true then ((codesearchref01_Strings.f k bt213.2 (([(⟨#[97]⟩ : ByteArray)] : List ByteArray))).bind fun t233 => (some t233)) else (none))) else (none)) else (none)) else (none)))))) else (none))) else (none))) = some r := H
       have A14 := Aside0.mk A140
       clear A140
       obtain ⟨y195,hy195⟩ : ∃ y_ : List ByteArray,y_ = (([(⟨#[120]⟩ : ByteArray),(⟨#[121]⟩ : ByteArray)] : List ByteArray)) := ⟨_,rfl⟩
       replace H : ((codesearchref01_Strings.f k t192 y195).bind fun t198 => (if t198 = true then ((tree_Under.f k y182 (⟨#[97]⟩ : ByteArray)).bind fun t199 => (if (t199.length : Int) = 2 then ((tree_Get.f k y182 (⟨#[98]⟩ : ByteArray)).bind fun bt202 => ((tree_Merge.f (([(⟨(⟨#[97]⟩ : ByteArray),1⟩ : S45),(⟨(⟨#[98]⟩ : ByteArray),1⟩ : S45)] : List (S45))) (([(⟨(⟨#[97]⟩ : ByteArray),2⟩ : S45),(⟨(⟨#[98]⟩ : ByteArray),1⟩ : S45)] : List (S45))) (([(⟨(⟨#[97]⟩ : ByteArray),3⟩ : S45),(⟨(⟨#[99]⟩ : ByteArray),3⟩ : S45)] : List (S45)))).bind fun bt213 => ((tree_Diff.f y153 t159).bind fun t219 => ((codesearchref25_Changes.f k t219 (([(⟨(⟨#[97]⟩ : ByteArray),5⟩ : S47),(⟨(⟨#[98]⟩ : ByteArray),0⟩ : S47)] : List (S47)))).bind fun t225 => (if t225 = true then (if bt202.1 = 1 then (if bt202.2 = true then ((codesearchref25_Files.f k bt213.1 (([(⟨(⟨#[97]⟩ : ByteArray),2⟩ : S45),(⟨(⟨#[99]⟩ : ByteArray),3⟩ : S45)] : List (S45)))).bind fun t229 => (if t229 = true then ((codesearchref01_Strings.f k bt213.2 (([(⟨#[97]⟩ : ByteArray)] : List ByteArray))).bind fun t233 => (some t233)) else (none))) else (none)) else (none)) else (none)))))) else (none))) else (none))) = some r := by first|(rw [hy195];with_reducible exact H)|(have H2_ := (Option.bind_some _ _).symm.trans H;rw [hy195];with_reducible exact H2_)|(have H2_ := (Option.bind_some _ _).symm.trans H;with_reducible exact H2_)|with_reducible exact H|(rw [hy195];exact H)|exact H
       have Ny195 := Aside0.mk hy195
       clear hy195
       replace H := Option.bind_eq_some_iff.mp H
       obtain ⟨t198,A150,H⟩ := H
       replace H : (if t198 = true then ((tree_Under.f k y182 (⟨#[97]⟩ : ByteArray)).bind fun t199 => (if (t199.length : Int) = 2 then ((tree_Get.f k y182 (⟨#[98]⟩ : ByteArray)).bind fun bt202 => ((tree_Merge.f (([(⟨(⟨#[97]⟩ : ByteArray),1⟩ : S45),(⟨(⟨#[98]⟩ : ByteArray),1⟩ : S45)] : List (S45))) (([(⟨(⟨#[97]⟩ : ByteArray),2⟩ : S45),(⟨(⟨#[98]⟩ : ByteArray),1⟩ : S45)] : List (S45))) (([(⟨(⟨#[97]⟩ : ByteArray),3⟩ : S45),(⟨(⟨#[99]⟩ : ByteArray),3⟩ : S45)] : List (S45)))).bind fun bt213 => ((tree_Diff.f y153 t159).bind fun t219 => ((codesearchref25_Changes.f k t219 (([(⟨(⟨#[97]⟩ : ByteArray),5⟩ : S47),(⟨(⟨#[98]⟩ : ByteArray),0⟩ : S47)] : List (S47)))).bind fun t225 => (if t225 = true then (if bt202.1 = 1 then (if bt202.2 = true then ((codesearchref25_Files.f k bt213.1 (([(⟨(⟨#[97]⟩ : ByteArray),2⟩ : S45),(⟨(⟨#[99]⟩ : ByteArray),3⟩ : S45)] : List (S45)))).bind fun t229 => (if t229 = true then ((codesearchref01_Strings.f k bt213.2 (([(⟨#[97]⟩ : ByteArray)] : List ByteArray))).bind fun t233 => (some t233)) else (none))) else (none)) else (none)) else (none)))))) else (none))) else (none)) = some r := H
       have A15 := Aside0.mk A150
       clear A150
       by_cases c16 : t198 = true
       ·subst c16
        have H1 : ((tree_Under.f k y182 (⟨#[97]⟩ : ByteArray)).bind fun t199 => (if (t199.length : Int) = 2 then ((tree_Get.f k y182 (⟨#[98]⟩ : ByteArray)).bind fun bt202 => ((tree_Merge.f (([(⟨(⟨#[97]⟩ : ByteArray),1⟩ : S45),(⟨(⟨#[98]⟩ : ByteArray),1⟩ : S45)] : List (S45))) (([(⟨(⟨#[97]⟩ : ByteArray),2⟩ : S45),(⟨(⟨#[98]⟩ : ByteArray),1⟩ : S45)] : List (S45))) (([(⟨(⟨#[97]⟩ : ByteArray),3⟩ : S45),(⟨(⟨#[99]⟩ : ByteArray),3⟩ : S45)] : List (S45)))).bind fun bt213 => ((tree_Diff.f y153 t159).bind fun t219 => ((codesearchref25_Changes.f k t219 (([(⟨(⟨#[97]⟩ : ByteArray),5⟩ : S47),(⟨(⟨#[98]⟩ : ByteArray),0⟩ : S47)] : List (S47)))).bind fun t225 => (if t225 = true then (if bt202.1 = 1 then (if bt202.2 = true then ((codesearchref25_Files.f k bt213.1 (([(⟨(⟨#[97]⟩ : ByteArray),2⟩ : S45),(⟨(⟨#[99]⟩ : ByteArray),3⟩ : S45)] : List (S45)))).bind fun t229 => (if t229 = true then ((codesearchref01_Strings.f k bt213.2 (([(⟨#[97]⟩ : ByteArray)] : List ByteArray))).bind fun t233 => (some t233)) else (none))) else (none)) else (none)) else (none)))))) else (none))) = some r := by rw [if_pos rfl] at H;exact H
        clear H
        have H := H1
        clear H1
        replace H := Option.bind_eq_some_iff.mp H
        obtain ⟨t199,A170,H⟩ := H
        replace H : (if (t199.length : Int) = 2 then ((tree_Get.f k y182 (⟨#[98]⟩ : ByteArray)).bind fun bt202 => ((tree_Merge.f (([(⟨(⟨#[97]⟩ : ByteArray),1⟩ : S45),(⟨(⟨#[98]⟩ : ByteArray),1⟩ : S45)] : List (S45))) (([(⟨(⟨#[97]⟩ : ByteArray),2⟩ : S45),(⟨(⟨#[98]⟩ : ByteArray),1⟩ : S45)] : List (S45))) (([(⟨(⟨#[97]⟩ : ByteArray),3⟩ : S45),(⟨(⟨#[99]⟩ : ByteArray),3⟩ : S45)] : List (S45)))).bind fun bt213 => ((tree_Diff.f y153 t159).bind fun t219 => ((codesearchref25_Changes.f k t219 (([(⟨(⟨#[97]⟩ : ByteArray),5⟩ : S47),(⟨(⟨#[98]⟩ : ByteArray),0⟩ : S47)] : List (S47)))).bind fun t225 => (if t225 = true then (if bt202.1 = 1 then (if bt202.2 = true then ((codesearchref25_Files.f k bt213.1 (([(⟨(⟨#[97]⟩ : ByteArray),2⟩ : S45),(⟨(⟨#[99]⟩ : ByteArray),3⟩ : S45)] : List (S45)))).bind fun t229 => (if t229 = true then ((codesearchref01_Strings.f k bt213.2 (([(⟨#[97]⟩ : ByteArray)] : List ByteArray))).bind fun t233 => (some t233)) else (none))) else (none)) else (none)) else (none)))))) else (none)) = some r := H
        have A17 := Aside0.mk A170
        clear A170
        by_cases c18 : (t199.length : Int) = 2
        ·rw [if_pos c18] at H
         have c18b0 : ((t199.length : Int) == 2) = true := beq_iff_eq.mpr c18
         have c18b1 : ((t199.length : Int) != 2) = false := bne_eq_false_iff_eq.mpr c18
         clear c18
         replace H := Option.bind_eq_some_iff.mp H
         obtain ⟨⟨t202,t203⟩,A190,H⟩ := H
         replace H : ((tree_Merge.f (([(⟨(⟨#[97]⟩ : ByteArray),1⟩ : S45),(⟨(⟨#[98]⟩ : ByteArray),1⟩ : S45)] : List (S45))) (([(⟨(⟨#[97]⟩ : ByteArray),2⟩ : S45),(⟨(⟨#[98]⟩ : ByteArray),1⟩ : S45)] : List (S45))) (([(⟨(⟨#[97]⟩ : ByteArray),3⟩ : S45),(⟨(⟨#[99]⟩ : ByteArray),3⟩ : S45)] : List (S45)))).bind fun bt213 => ((tree_Diff.f y153 t159).bind fun t219 => ((codesearchref25_Changes.f k t219 (([(⟨(⟨#[97]⟩ : ByteArray),5⟩ : S47),(⟨(⟨#[98]⟩ : ByteArray),0⟩ : S47)] : List (S47)))).bind fun t225 => (if t225 = true then (if t202 = 1 then (if t203 = true then ((codesearchref25_Files.f k bt213.1 (([(⟨(⟨#[97]⟩ : ByteArray),2⟩ : S45),(⟨(⟨#[99]⟩ : ByteArray),3⟩ : S45)] : List (S45)))).bind fun t229 => (if t229 = true then ((codesearchref01_Strings.f k bt213.2 (([(⟨#[97]⟩ : ByteArray)] : List ByteArray))).bind fun t233 => (some t233)) else (none))) else (none)) else (none)) else (none))))) = some r := H
         have A19 := Aside0.mk A190
         clear A190
         obtain ⟨y204,hy204⟩ : ∃ y_ : List (S45),y_ = (([(⟨(⟨#[97]⟩ : ByteArray),1⟩ : S45),(⟨(⟨#[98]⟩ : ByteArray),1⟩ : S45)] : List (S45))) := ⟨_,rfl⟩
         replace H : ((tree_Merge.f y204 (([(⟨(⟨#[97]⟩ : ByteArray),2⟩ : S45),(⟨(⟨#[98]⟩ : ByteArray),1⟩ : S45)] : List (S45))) (([(⟨(⟨#[97]⟩ : ByteArray),3⟩ : S45),(⟨(⟨#[99]⟩ : ByteArray),3⟩ : S45)] : List (S45)))).bind fun bt213 => ((tree_Diff.f y153 t159).bind fun t219 => ((codesearchref25_Changes.f k t219 (([(⟨(⟨#[97]⟩ : ByteArray),5⟩ : S47),(⟨(⟨#[98]⟩ : ByteArray),0⟩ : S47)] : List (S47)))).bind fun t225 => (if t225 = true then (if t202 = 1 then (if t203 = true then ((codesearchref25_Files.f k bt213.1 (([(⟨(⟨#[97]⟩ : ByteArray),2⟩ : S45),(⟨(⟨#[99]⟩ : ByteArray),3⟩ : S45)] : List (S45)))).bind fun t229 => (if t229 = true then ((codesearchref01_Strings.f k bt213.2 (([(⟨#[97]⟩ : ByteArray)] : List ByteArray))).bind fun t233 => (some t233)) else (none))) else (none)) else (none)) else (none))))) = some r := by first|(rw [hy204];with_reducible exact H)|(have H2_ := (Option.bind_some _ _).symm.trans H;rw [hy204];with_reducible exact H2_)|(have H2_ := (Option.bind_some _ _).symm.trans H;with_reducible exact H2_)|with_reducible exact H|(rw [hy204];exact H)|exact H
         have Ny204 := Aside0.mk hy204
         clear hy204
         obtain ⟨y207,hy207⟩ : ∃ y_ : List (S45),y_ = (([(⟨(⟨#[97]⟩ : ByteArray),2⟩ : S45),(⟨(⟨#[98]⟩ : ByteArray),1⟩ : S45)] : List (S45))) := ⟨_,rfl⟩
         replace H : ((tree_Merge.f y204 y207 (([(⟨(⟨#[97]⟩ : ByteArray),3⟩ : S45),(⟨(⟨#[99]⟩ : ByteArray),3⟩ : S45)] : List (S45)))).bind fun bt213 => ((tree_Diff.f y153 t159).bind fun t219 => ((codesearchref25_Changes.f k t219 (([(⟨(⟨#[97]⟩ : ByteArray),5⟩ : S47),(⟨(⟨#[98]⟩ : ByteArray),0⟩ : S47)] : List (S47)))).bind fun t225 => (if t225 = true then (if t202 = 1 then (if t203 = true then ((codesearchref25_Files.f k bt213.1 (([(⟨(⟨#[97]⟩ : ByteArray),2⟩ : S45),(⟨(⟨#[99]⟩ : ByteArray),3⟩ : S45)] : List (S45)))).bind fun t229 => (if t229 = true then ((codesearchref01_Strings.f k bt213.2 (([(⟨#[97]⟩ : ByteArray)] : List ByteArray))).bind fun t233 => (some t233)) else (none))) else (none)) else (none)) else (none))))) = some r := by first|(rw [hy207];with_reducible exact H)|(have H2_ := (Option.bind_some _ _).symm.trans H;rw [hy207];with_reducible exact H2_)|(have H2_ := (Option.bind_some _ _).symm.trans H;with_reducible exact H2_)|with_reducible exact H|(rw [hy207];exact H)|exact H
         have Ny207 := Aside0.mk hy207
         clear hy207
         obtain ⟨y210,hy210⟩ : ∃ y_ : List (S45),y_ = (([(⟨(⟨#[97]⟩ : ByteArray),3⟩ : S45),(⟨(⟨#[99]⟩ : ByteArray),3⟩ : S45)] : List (S45))) := ⟨_,rfl⟩
         replace H : ((tree_Merge.f y204 y207 y210).bind fun bt213 => ((tree_Diff.f y153 t159).bind fun t219 => ((codesearchref25_Changes.f k t219 (([(⟨(⟨#[97]⟩ : ByteArray),5⟩ : S47),(⟨(⟨#[98]⟩ : ByteArray),0⟩ : S47)] : List (S47)))).bind fun t225 => (if t225 = true then (if t202 = 1 then (if t203 = true then ((codesearchref25_Files.f k bt213.1 (([(⟨(⟨#[97]⟩ : ByteArray),2⟩ : S45),(⟨(⟨#[99]⟩ : ByteArray),3⟩ : S45)] : List (S45)))).bind fun t229 => (if t229 = true then ((codesearchref01_Strings.f k bt213.2 (([(⟨#[97]⟩ : ByteArray)] : List ByteArray))).bind fun t233 => (some t233)) else (none))) else (none)) else (none)) else (none))))) = some r := by first|(rw [hy210];with_reducible exact H)|(have H2_ := (Option.bind_some _ _).symm.trans H;rw [hy210];with_reducible exact H2_)|(have H2_ := (Option.bind_some _ _).symm.trans H;with_reducible exact H2_)|with_reducible exact H|(rw [hy210];exact H)|exact H
         have Ny210 := Aside0.mk hy210
         clear hy210
         replace H := Option.bind_eq_some_iff.mp H
         obtain ⟨⟨t213,t214⟩,A200,H⟩ := H
         replace H : ((tree_Diff.f y153 t159).bind fun t219 => ((codesearchref25_Changes.f k t219 (([(⟨(⟨#[97]⟩ : ByteArray),5⟩ : S47),(⟨(⟨#[98]⟩ : ByteArray),0⟩ : S47)] : List (S47)))).bind fun t225 => (if t225 = true then (if t202 = 1 then (if t203 = true then ((codesearchref25_Files.f k t213 (([(⟨(⟨#[97]⟩ : ByteArray),2⟩ : S45),(⟨(⟨#[99]⟩ : ByteArray),3⟩ : S45)] : List (S45)))).bind fun t229 => (if t229 = true then ((codesearchref01_Strings.f k t214 (([(⟨#[97]⟩ : ByteArray)] : List ByteArray))).bind fun t233 => (some t233)) else (none))) else (none)) else (none)) else (none)))) = some r := H
         have A20 := Aside0.mk A200
         clear A200
         replace H := Option.bind_eq_some_iff.mp H
         obtain ⟨t219,A210,H⟩ := H
         replace H : ((codesearchref25_Changes.f k t219 (([(⟨(⟨#[97]⟩ : ByteArray),5⟩ : S47),(⟨(⟨#[98]⟩ : ByteArray),0⟩ : S47)] : List (S47)))).bind fun t225 => (if t225 = true then (if t202 = 1 then (if t203 = true then ((codesearchref25_Files.f k t213 (([(⟨(⟨#[97]⟩ : ByteArray),2⟩ : S45),(⟨(⟨#[99]⟩ : ByteArray),3⟩ : S45)] : List (S45)))).bind fun t229 => (if t229 = true then ((codesearchref01_Strings.f k t214 (([(⟨#[97]⟩ : ByteArray)] : List ByteArray))).bind fun t233 => (some t233)) else (none))) else (none)) else (none)) else (none))) = some r := H
         have A21 := Aside0.mk A210
         clear A210
         obtain ⟨y222,hy222⟩ : ∃ y_ : List (S47),y_ = (([(⟨(⟨#[97]⟩ : ByteArray),5⟩ : S47),(⟨(⟨#[98]⟩ : ByteArray),0⟩ : S47)] : List (S47))) := ⟨_,rfl⟩
         replace H : ((codesearchref25_Changes.f k t219 y222).bind fun t225 => (if t225 = true then (if t202 = 1 then (if t203 = true then ((codesearchref25_Files.f k t213 (([(⟨(⟨#[97]⟩ : ByteArray),2⟩ : S45),(⟨(⟨#[99]⟩ : ByteArray),3⟩ : S45)] : List (S45)))).bind fun t229 => (if t229 = true then ((codesearchref01_Strings.f k t214 (([(⟨#[97]⟩ : ByteArray)] : List ByteArray))).bind fun t233 => (some t233)) else (none))) else (none)) else (none)) else (none))) = some r := by first|(rw [hy222];with_reducible exact H)|(have H2_ := (Option.bind_some _ _).symm.trans H;rw [hy222];with_reducible exact H2_)|(have H2_ := (Option.bind_some _ _).symm.trans H;with_reducible exact H2_)|with_reducible exact H|(rw [hy222];exact H)|exact H
         have Ny222 := Aside0.mk hy222
         clear hy222
         replace H := Option.bind_eq_some_iff.mp H
         obtain ⟨t225,A220,H⟩ := H
         replace H : (if t225 = true then (if t202 = 1 then (if t203 = true then ((codesearchref25_Files.f k t213 (([(⟨(⟨#[97]⟩ : ByteArray),2⟩ : S45),(⟨(⟨#[99]⟩ : ByteArray),3⟩ : S45)] : List (S45)))).bind fun t229 => (if t229 = true then ((codesearchref01_Strings.f k t214 (([(⟨#[97]⟩ : ByteArray)] : List ByteArray))).bind fun t233 => (some t233)) else (none))) else (none)) else (none)) else (none)) = some r := H
         have A22 := Aside0.mk A220
         clear A220
         by_cases c23 : t225 = true
         ·subst c23
          have H1 : (if t202 = 1 then (if t203 = true then ((codesearchref25_Files.f k t213 (([(⟨(⟨#[97]⟩ : ByteArray),2⟩ : S45),(⟨(⟨#[99]⟩ : ByteArray),3⟩ : S45)] : List (S45)))).bind fun t229 => (if t229 = true then ((codesearchref01_Strings.f k t214 (([(⟨#[97]⟩ : ByteArray)] : List ByteArray))).bind fun t233 => (some t233)) else (none))) else (none)) else (none)) = some r := by rw [if_pos rfl] at H;exact H
          clear H
          have H := H1
          clear H1
          by_cases c24 : t202 = 1
          ·rw [if_pos c24] at H
           have c24b0 : (t202 == 1) = true := beq_iff_eq.mpr c24
           have c24b1 : (t202 != 1) = false := bne_eq_false_iff_eq.mpr c24
           clear c24
           by_cases c25 : t203 = true
           ·subst c25
            have H1 : ((codesearchref25_Files.f k t213 (([(⟨(⟨#[97]⟩ : ByteArray),2⟩ : S45),(⟨(⟨#[99]⟩ : ByteArray),3⟩ : S45)] : List (S45)))).bind fun t229 => (if t229 = true then ((codesearchref01_Strings.f k t214 (([(⟨#[97]⟩ : ByteArray)] : List ByteArray))).bind fun t233 => (some t233)) else (none))) = some r := by rw [if_pos rfl] at H;exact H
            clear H
            have H := H1
            clear H1
            obtain ⟨y226,hy226⟩ : ∃ y_ : List (S45),y_ = (([(⟨(⟨#[97]⟩ : ByteArray),2⟩ : S45),(⟨(⟨#[99]⟩ : ByteArray),3⟩ : S45)] : List (S45))) := ⟨_,rfl⟩
            replace H : ((codesearchref25_Files.f k t213 y226).bind fun t229 => (if t229 = true then ((codesearchref01_Strings.f k t214 (([(⟨#[97]⟩ : ByteArray)] : List ByteArray))).bind fun t233 => (some t233)) else (none))) = some r := by first|(rw [hy226];with_reducible exact H)|(have H2_ := (Option.bind_some _ _).symm.trans H;rw [hy226];with_reducible exact H2_)|(have H2_ := (Option.bind_some _ _).symm.trans H;with_reducible exact H2_)|with_reducible exact H|(rw [hy226];exact H)|exact H
            have Ny226 := Aside0.mk hy226
            clear hy226
            replace H := Option.bind_eq_some_iff.mp H
            obtain ⟨t229,A260,H⟩ := H
            replace H : (if t229 = true then ((codesearchref01_Strings.f k t214 (([(⟨#[97]⟩ : ByteArray)] : List ByteArray))).bind fun t233 => (some t233)) else (none)) = some r := H
            have A26 := Aside0.mk A260
            clear A260
            by_cases c27 : t229 = true
            ·subst c27
             have H1 : ((codesearchref01_Strings.f k t214 (([(⟨#[97]⟩ : ByteArray)] : List ByteArray))).bind fun t233 => (some t233)) = some r := by rw [if_pos rfl] at H;exact H
             clear H
             have H := H1
             clear H1
             obtain ⟨y230,hy230⟩ : ∃ y_ : List ByteArray,y_ = (([(⟨#[97]⟩ : ByteArray)] : List ByteArray)) := ⟨_,rfl⟩
             replace H : ((codesearchref01_Strings.f k t214 y230).bind fun t233 => (some t233)) = some r := by first|(rw [hy230];with_reducible exact H)|(have H2_ := (Option.bind_some _ _).symm.trans H;rw [hy230];with_reducible exact H2_)|(have H2_ := (Option.bind_some _ _).symm.trans H;with_reducible exact H2_)|with_reducible exact H|(rw [hy230];exact H)|exact H
             have Ny230 := Aside0.mk hy230
             clear hy230
             replace H := Option.bind_eq_some_iff.mp H
             obtain ⟨t233,A280,H⟩ := H
             replace H : (some t233) = some r := H
             have A28 := Aside0.mk A280
             clear A280
             obtain rfl := Option.some.inj H
             go_enter Tryd.func11,Tryd.ntmps11
             go_wp2_with (first|((with_reducible refine gate_dst (N := 15) rfl ?_);(try (refine gate_guard (by rfl) ?_;dsimp only));refine Kd.R_lit k45 _ 45 ?hg (N := 15) ?hd (xs := ([(⟨(⟨#[97]⟩ : ByteArray),1⟩ : S45),(⟨(⟨#[98]⟩ : ByteArray),2⟩ : S45)] : List (S45))) (inner := [.string (⟨#[97]⟩ : ByteArray),.int .i64 1,.string (⟨#[98]⟩ : ByteArray),.int .i64 2]) (ok := fun _ => True) (okp := fun _ => True) ?hr ?hp (fun _ hk => hk) trivial (Below.refl _ _) (Nat.le_refl _) (by simp) ?_;(case hd => rfl);(case hg => rfl);(case hr => first|(go_simp;done)|(go_simp;rfl));(case hp => exact (Reps.c2 (show Kd.M k45 _ _ _ (⟨(⟨#[97]⟩ : ByteArray),1⟩ : S45) [.string (⟨#[97]⟩ : ByteArray),.int .i64 1] from (k45_mkM _ _ _ (⟨(⟨#[97]⟩ : ByteArray),1⟩ : S45) )) (Reps.c2 (show Kd.M k45 _ _ _ (⟨(⟨#[98]⟩ : ByteArray),2⟩ : S45) [.string (⟨#[98]⟩ : ByteArray),.int .i64 2] from (k45_mkM _ _ _ (⟨(⟨#[98]⟩ : ByteArray),2⟩ : S45) )) (Reps.none _ _))));intro v154 w29 ho30 hb hg_ hnew_;clear hg_ hnew_;(first|rw [← Ny153.out] at ho30|(simp only [Int.reduceToNat] at ho30;rw [← Ny153.out] at ho30));have n0_ := Aside0.mk (Kd.R_lower ho30 (below_size (bM HB.out)));have n1_ := Aside0.mk (below_step (bM HB.out) hb);clear HB;have HO155 := n0_;have HB := n1_;clear n0_ n1_;clear hb ho30)|((with_reducible refine gate_dst (N := 20) rfl ?_);(try (refine gate_guard (by rfl) ?_;dsimp only));refine Kd.R_lit k47 _ 47 ?hg (N := 20) ?hd (xs := ([(⟨(⟨#[97]⟩ : ByteArray),5⟩ : S47),(⟨(⟨#[98]⟩ : ByteArray),0⟩ : S47)] : List (S47))) (inner := [.string (⟨#[97]⟩ : ByteArray),.int .i64 5,.string (⟨#[98]⟩ : ByteArray),.int .i64 0]) (ok := fun _ => True) (okp := fun _ => True) ?hr ?hp (fun _ hk => hk) trivial (Below.refl _ _) (Nat.le_refl _) (by simp) ?_;(case hd => rfl);(case hg => rfl);(case hr => first|(go_simp;done)|(go_simp;rfl));(case hp => exact (Reps.c2 (show Kd.M k47 _ _ _ (⟨(⟨#[97]⟩ : ByteArray),5⟩ : S47) [.string (⟨#[97]⟩ : ByteArray),.int .i64 5] from (k47_mkM _ _ _ (⟨(⟨#[97]⟩ : ByteArray),5⟩ : S47) )) (Reps.c2 (show Kd.M k47 _ _ _ (⟨(⟨#[98]⟩ : ByteArray),0⟩ : S47) [.string (⟨#[98]⟩ : ByteArray),.int .i64 0] from (k47_mkM _ _ _ (⟨(⟨#[98]⟩ : ByteArray),0⟩ : S47) )) (Reps.none _ _))));intro v157 w31 ho32 hb hg_ hnew_;clear hg_ hnew_;(first|rw [← Ny156.out] at ho32|(simp only [Int.reduceToNat] at ho32;rw [← Ny156.out] at ho32));have n0_ := Aside0.mk (Kd.R_below (rM HO155.out) hb);have n1_ := Aside0.mk (Kd.R_lower ho32 (below_size (bM HB.out)));have n2_ := Aside0.mk (below_step (bM HB.out) hb);clear HO155;clear HB;have HO155 := n0_;have HO158 := n1_;have HB := n2_;clear n0_ n1_ n2_;clear hb ho32;obtain ⟨Ao33,co33,eo33⟩ := Kd.R_slice HO155.out;subst eo33;obtain ⟨Ao34,co34,eo34⟩ := Kd.R_slice HO158.out;subst eo34)|((with_reducible refine gate_callee (f := 16) rfl ?_);refine goesL_ (some 21) rfl rfl Tryd.func16 (by kernel_rfl) rfl #[.slice Ao33 y153.length co33,.slice Ao34 y156.length co34] rfl (by (try simp only [List.map_toArray,List.map_cons,List.map_nil]);first|done|rfl|(simp only [List.length_drop,List.length_take];rfl)) ?_;(with_reducible refine (tree_Apply.calls k _ _ y153 _ _ y156 t159 t160 _ ?side1 ?side2 ?side3 ?side4 A1.out).mono ?_);(case side1 => exact cM (Kd.R_reads' HO155.out).2.2);(case side2 => exact (Kd.R_reads' HO155.out).2.1);(case side3 => exact cM (Kd.R_reads' HO158.out).2.2);(case side4 => exact (Kd.R_reads' HO158.out).2.1);rintro e w35 ⟨v161,rfl,ho0,hb⟩;refine ⟨_,rfl,?_⟩;have n0_ := Aside0.mk (Kd.R_elder' (rM HO155.out) (Kd.R_base ho0) hb);have n1_ := Aside0.mk (Kd.R_below (rM HO158.out) hb);have n2_ := Aside0.mk (Kd.R_lower (Kd.R_new' ho0 (Kd.R_lt (rM HO155.out))) (below_size (bM HB.out)));have n3_ := Aside0.mk (below_step (bM HB.out) hb);clear HO155;clear HO158;clear HB;have HO155 := n0_;have HO158 := n1_;have HO162 := n2_;have HB := n3_;clear n0_ n1_ n2_ n3_;(try clear hb);(try clear hb2);(try clear hk);(try clear hi);(try clear ho0))|((with_reducible refine gate_dst (N := 28) rfl ?_);(try (refine gate_guard (by rfl) ?_;dsimp only));refine Kd.R_lit k47 _ 47 ?hg (N := 28) ?hd (xs := ([(⟨(⟨#[98]⟩ : ByteArray),0⟩ : S47),(⟨(⟨#[98]⟩ : ByteArray),0⟩ : S47)] : List (S47))) (inner := [.string (⟨#[98]⟩ : ByteArray),.int .i64 0,.string (⟨#[98]⟩ : ByteArray),.int .i64 0]) (ok := fun _ => True) (okp := fun _ => True) ?hr ?hp (fun _ hk => hk) trivial (Below.refl _ _) (Nat.le_refl _) (by simp) ?_;(case hd => rfl);(case hg => rfl);(case hr => first|(go_simp;done)|(go_simp;rfl));(case hp => exact (Reps.c2 (show Kd.M k47 _ _ _ (⟨(⟨#[98]⟩ : ByteArray),0⟩ : S47) [.string (⟨#[98]⟩ : ByteArray),.int .i64 0] from (k47_mkM _ _ _ (⟨(⟨#[98]⟩ : ByteArray),0⟩ : S47) )) (Reps.c2 (show Kd.M k47 _ _ _ (⟨(⟨#[98]⟩ : ByteArray),0⟩ : S47) [.string (⟨#[98]⟩ : ByteArray),.int .i64 0] from (k47_mkM _ _ _ (⟨(⟨#[98]⟩ : ByteArray),0⟩ : S47) )) (Reps.none _ _))));intro v164 w36 ho37 hb hg_ hnew_;clear hg_ hnew_;(first|rw [← Ny163.out] at ho37|(simp only [Int.reduceToNat] at ho37;rw [← Ny163.out] at ho37));have n0_ := Aside0.mk (Kd.R_below (rM HO155.out) hb);have n1_ := Aside0.mk (Kd.R_elder' (rM HO158.out) (Kd.R_base ho37) hb);have n2_ := Aside0.mk (Kd.R_below (rM HO162.out) hb);have n3_ := Aside0.mk (Kd.R_lower (Kd.R_new' ho37 (Kd.R_lt (rM HO158.out))) (below_size (bM HB.out)));have n4_ := Aside0.mk (below_step (bM HB.out) hb);clear HO155;clear HO158;clear HO162;clear HB;have HO155 := n0_;have HO158 := n1_;have HO162 := n2_;have HO165 := n3_;have HB := n4_;clear n0_ n1_ n2_ n3_ n4_;clear hb ho37;obtain ⟨Ao38,co38,eo38⟩ := Kd.R_slice HO165.out;subst eo38)|((with_reducible refine gate_callee (f := 16) rfl ?_);refine goesL_ (some 29) rfl rfl Tryd.func16 (by kernel_rfl) rfl #[.slice Ao33 y153.length co33,.slice Ao38 y163.length co38] rfl (by (try simp only [List.map_toArray,List.map_cons,List.map_nil]);first|done|rfl|(simp only [List.length_drop,List.length_take];rfl)) ?_;(with_reducible refine (tree_Apply.calls k _ _ y153 _ _ y163 t166 t167 _ ?side1 ?side2 ?side3 ?side4 A2.out).mono ?_);(case side1 => exact cM (Kd.R_reads' HO155.out).2.2);(case side2 => exact (Kd.R_reads' HO155.out).2.1);(case side3 => exact cM (Kd.R_reads' HO165.out).2.2);(case side4 => exact (Kd.R_reads' HO165.out).2.1);rintro e w39 ⟨v168,rfl,ho0,hb⟩;refine ⟨_,rfl,?_⟩;have n0_ := Aside0.mk (Kd.R_elder' (rM HO155.out) (Kd.R_base ho0) hb);have n1_ := Aside0.mk (Kd.R_below (rM HO158.out) hb);have n2_ := Aside0.mk (Kd.R_elder' (rM HO162.out) (Kd.R_base ho0) hb);have n3_ := Aside0.mk (Kd.R_below (rM HO165.out) hb);have n4_ := Aside0.mk (Kd.R_lower (Kd.R_new' (Kd.R_new' ho0 (Kd.R_lt (rM HO155.out))) (Kd.R_lt (rM HO162.out))) (below_size (bM HB.out)));have n5_ := Aside0.mk (below_step (bM HB.out) hb);clear HO155;clear HO158;clear HO162;clear HO165;clear HB;have HO155 := n0_;have HO158 := n1_;have HO162 := n2_;have HO165 := n3_;have HO169 := n4_;have HB := n5_;clear n0_ n1_ n2_ n3_ n4_ n5_;(try clear hb);(try clear hb2);(try clear hk);(try clear hi);(try clear ho0))|((with_reducible refine gate_dst (N := 41) rfl ?_);(try (refine gate_guard (by rfl) ?_;dsimp only));refine Kd.R_lit k45 _ 45 ?hg (N := 41) ?hd (xs := ([(⟨(⟨#[97]⟩ : ByteArray),5⟩ : S45)] : List (S45))) (inner := [.string (⟨#[97]⟩ : ByteArray),.int .i64 5]) (ok := fun _ => True) (okp := fun _ => True) ?hr ?hp (fun _ hk => hk) trivial (Below.refl _ _) (Nat.le_refl _) (by simp) ?_;(case hd => rfl);(case hg => rfl);(case hr => first|(go_simp;done)|(go_simp;rfl));(case hp => exact (Reps.c2 (show Kd.M k45 _ _ _ (⟨(⟨#[97]⟩ : ByteArray),5⟩ : S45) [.string (⟨#[97]⟩ : ByteArray),.int .i64 5] from (k45_mkM _ _ _ (⟨(⟨#[97]⟩ : ByteArray),5⟩ : S45) )) (Reps.none _ _)));intro v171 w40 ho41 hb hg_ hnew_;clear hg_ hnew_;(first|rw [← Ny170.out] at ho41|(simp only [Int.reduceToNat] at ho41;rw [← Ny170.out] at ho41));have n0_ := Aside0.mk (Kd.R_elder' (rM HO155.out) (Kd.R_base ho41) hb);have n1_ := Aside0.mk (Kd.R_below (rM HO158.out) hb);have n2_ := Aside0.mk (Kd.R_elder' (rM HO162.out) (Kd.R_base ho41) hb);have n3_ := Aside0.mk (Kd.R_below (rM HO165.out) hb);have n4_ := Aside0.mk (Kd.R_elder' (rM HO169.out) (Kd.R_base ho41) hb);have n5_ := Aside0.mk (Kd.R_lower (Kd.R_new' (Kd.R_new' (Kd.R_new' ho41 (Kd.R_lt (rM HO155.out))) (Kd.R_lt (rM HO162.out))) (Kd.R_lt (rM HO169.out))) (below_size (bM HB.out)));have n6_ := Aside0.mk (below_step (bM HB.out) hb);clear HO155;clear HO158;clear HO162;clear HO165;clear HO169;clear HB;have HO155 := n0_;have HO158 := n1_;have HO162 := n2_;have HO165 := n3_;have HO169 := n4_;have HO172 := n5_;have HB := n6_;clear n0_ n1_ n2_ n3_ n4_ n5_ n6_;clear hb ho41;obtain ⟨Ao42,co42,eo42⟩ := Kd.R_slice HO162.out;subst eo42;obtain ⟨Ao43,co43,eo43⟩ := Kd.R_slice HO172.out;subst eo43)|(go_at_call 18;(with_reducible refine (codesearchref25_Files.calls k _ _ t159 _ _ y170 true _ ?side1 ?side2 ?side3 ?side4 A5.out).mono ?_);(case side1 => exact cM (Kd.R_reads' HO162.out).2.2);(case side2 => exact (Kd.R_reads' HO162.out).2.1);(case side3 => exact cM (Kd.R_reads' HO172.out).2.2);(case side4 => exact (Kd.R_reads' HO172.out).2.1);rintro e w' ⟨rfl,⟨nd,rfl⟩⟩)|((with_reducible refine gate_dst (N := 47) rfl ?_);(try (refine gate_guard (by rfl) ?_;dsimp only));refine Kd.R_lit k45 _ 45 ?hg (N := 47) ?hd (xs := ([(⟨(⟨#[97,47,98]⟩ : ByteArray),1⟩ : S45),(⟨(⟨#[97,46,99]⟩ : ByteArray),2⟩ : S45)] : List (S45))) (inner := [.string (⟨#[97,47,98]⟩ : ByteArray),.int .i64 1,.string (⟨#[97,46,99]⟩ : ByteArray),.int .i64 2]) (ok := fun _ => True) (okp := fun _ => True) ?hr ?hp (fun _ hk => hk) trivial (Below.refl _ _) (Nat.le_refl _) (by simp) ?_;(case hd => rfl);(case hg => rfl);(case hr => first|(go_simp;done)|(go_simp;rfl));(case hp => exact (Reps.c2 (show Kd.M k45 _ _ _ (⟨(⟨#[97,47,98]⟩ : ByteArray),1⟩ : S45) [.string (⟨#[97,47,98]⟩ : ByteArray),.int .i64 1] from (k45_mkM _ _ _ (⟨(⟨#[97,47,98]⟩ : ByteArray),1⟩ : S45) )) (Reps.c2 (show Kd.M k45 _ _ _ (⟨(⟨#[97,46,99]⟩ : ByteArray),2⟩ : S45) [.string (⟨#[97,46,99]⟩ : ByteArray),.int .i64 2] from (k45_mkM _ _ _ (⟨(⟨#[97,46,99]⟩ : ByteArray),2⟩ : S45) )) (Reps.none _ _))));intro v175 w44 ho45 hb hg_ hnew_;clear hg_ hnew_;(first|rw [← Ny174.out] at ho45|(simp only [Int.reduceToNat] at ho45;rw [← Ny174.out] at ho45));have n0_ := Aside0.mk (Kd.R_elder' (rM HO155.out) (Kd.R_base ho45) hb);have n1_ := Aside0.mk (Kd.R_below (rM HO158.out) hb);have n2_ := Aside0.mk (Kd.R_elder' (rM HO162.out) (Kd.R_base ho45) hb);have n3_ := Aside0.mk (Kd.R_below (rM HO165.out) hb);have n4_ := Aside0.mk (Kd.R_elder' (rM HO169.out) (Kd.R_base ho45) hb);have n5_ := Aside0.mk (Kd.R_elder' (rM HO172.out) (Kd.R_base ho45) hb);have n6_ := Aside0.mk (Kd.R_lower (Kd.R_new' (Kd.R_new' (Kd.R_new' (Kd.R_new' ho45 (Kd.R_lt (rM HO155.out))) (Kd.R_lt (rM HO162.out))) (Kd.R_lt (rM HO169.out))) (Kd.R_lt (rM HO172.out))) (below_size (bM HB.out)));have n7_ := Aside0.mk (below_step (bM HB.out) hb);clear HO155;clear HO158;clear HO162;clear HO165;clear HO169;clear HO172;clear HB;have HO155 := n0_;have HO158 := n1_;have HO162 := n2_;have HO165 := n3_;have HO169 := n4_;have HO172 := n5_;have HO176 := n6_;have HB := n7_;clear n0_ n1_ n2_ n3_ n4_ n5_ n6_ n7_;clear hb ho45;obtain ⟨Ao46,co46,eo46⟩ := Kd.R_slice HO176.out;subst eo46)|((with_reducible refine gate_callee (f := 12) rfl ?_);refine goesL_ (some 48) rfl rfl Tryd.func12 (by kernel_rfl) rfl #[.slice Ao46 y174.length co46] rfl (by (try simp only [List.map_toArray,List.map_cons,List.map_nil]);first|done|rfl|(simp only [List.length_drop,List.length_take];rfl)) ?_;(with_reducible refine (tree_Right.calls k _ _ y174 t177 _ ?side1 ?side2 A7.out).mono ?_);(case side1 => exact cM (Kd.R_reads' HO176.out).2.2);(case side2 => exact (Kd.R_reads' HO176.out).2.1);rintro e w47 ⟨rfl,hb⟩;refine ⟨_,rfl,?_⟩;have n0_ := Aside0.mk (Kd.R_below (rM HO155.out) hb);have n1_ := Aside0.mk (Kd.R_below (rM HO158.out) hb);have n2_ := Aside0.mk (Kd.R_below (rM HO162.out) hb);have n3_ := Aside0.mk (Kd.R_below (rM HO165.out) hb);have n4_ := Aside0.mk (Kd.R_below (rM HO169.out) hb);have n5_ := Aside0.mk (Kd.R_below (rM HO172.out) hb);have n6_ := Aside0.mk (Kd.R_below (rM HO176.out) hb);have n7_ := Aside0.mk (below_step (bM HB.out) hb);clear HO155;clear HO158;clear HO162;clear HO165;clear HO169;clear HO172;clear HO176;clear HB;have HO155 := n0_;have HO158 := n1_;have HO162 := n2_;have HO165 := n3_;have HO169 := n4_;have HO172 := n5_;have HO176 := n6_;have HB := n7_;clear n0_ n1_ n2_ n3_ n4_ n5_ n6_ n7_;(try clear hb);(try clear hb2);(try clear hk);(try clear hi))|((with_reducible refine gate_dst (N := 53) rfl ?_);(try (refine gate_guard (by rfl) ?_;dsimp only));refine Kd.R_lit k45 _ 45 ?hg (N := 53) ?hd (xs := ([(⟨(⟨#[97]⟩ : ByteArray),1⟩ : S45),(⟨(⟨#[97,47,98]⟩ : ByteArray),2⟩ : S45)] : List (S45))) (inner := [.string (⟨#[97]⟩ : ByteArray),.int .i64 1,.string (⟨#[97,47,98]⟩ : ByteArray),.int .i64 2]) (ok := fun _ => True) (okp := fun _ => True) ?hr ?hp (fun _ hk => hk) trivial (Below.refl _ _) (Nat.le_refl _) (by simp) ?_;(case hd => rfl);(case hg => rfl);(case hr => first|(go_simp;done)|(go_simp;rfl));(case hp => exact (Reps.c2 (show Kd.M k45 _ _ _ (⟨(⟨#[97]⟩ : ByteArray),1⟩ : S45) [.string (⟨#[97]⟩ : ByteArray),.int .i64 1] from (k45_mkM _ _ _ (⟨(⟨#[97]⟩ : ByteArray),1⟩ : S45) )) (Reps.c2 (show Kd.M k45 _ _ _ (⟨(⟨#[97,47,98]⟩ : ByteArray),2⟩ : S45) [.string (⟨#[97,47,98]⟩ : ByteArray),.int .i64 2] from (k45_mkM _ _ _ (⟨(⟨#[97,47,98]⟩ : ByteArray),2⟩ : S45) )) (Reps.none _ _))));intro v179 w48 ho49 hb hg_ hnew_;clear hg_ hnew_;(first|rw [← Ny178.out] at ho49|(simp only [Int.reduceToNat] at ho49;rw [← Ny178.out] at ho49));have n0_ := Aside0.mk (Kd.R_elder' (rM HO155.out) (Kd.R_base ho49) hb);have n1_ := Aside0.mk (Kd.R_below (rM HO158.out) hb);have n2_ := Aside0.mk (Kd.R_elder' (rM HO162.out) (Kd.R_base ho49) hb);have n3_ := Aside0.mk (Kd.R_below (rM HO165.out) hb);have n4_ := Aside0.mk (Kd.R_elder' (rM HO169.out) (Kd.R_base ho49) hb);have n5_ := Aside0.mk (Kd.R_elder' (rM HO172.out) (Kd.R_base ho49) hb);have n6_ := Aside0.mk (Kd.R_elder' (rM HO176.out) (Kd.R_base ho49) hb);have n7_ := Aside0.mk (Kd.R_lower (Kd.R_new' (Kd.R_new' (Kd.R_new' (Kd.R_new' (Kd.R_new' ho49 (Kd.R_lt (rM HO155.out))) (Kd.R_lt (rM HO162.out))) (Kd.R_lt (rM HO169.out))) (Kd.R_lt (rM HO172.out))) (Kd.R_lt (rM HO176.out))) (below_size (bM HB.out)));have n8_ := Aside0.mk (below_step (bM HB.out) hb);clear HO155;clear HO158;clear HO162;clear HO165;clear HO169;clear HO172;clear HO176;clear HB;have HO155 := n0_;have HO158 := n1_;have HO162 := n2_;have HO165 := n3_;have HO169 := n4_;have HO172 := n5_;have HO176 := n6_;have HO180 := n7_;have HB := n8_;clear n0_ n1_ n2_ n3_ n4_ n5_ n6_ n7_ n8_;clear hb ho49;obtain ⟨Ao50,co50,eo50⟩ := Kd.R_slice HO180.out;subst eo50)|(go_at_call 12;(with_reducible refine (tree_Right.calls k _ _ y178 t181 _ ?side1 ?side2 A9.out).mono ?_);(case side1 => exact cM (Kd.R_reads' HO180.out).2.2);(case side2 => exact (Kd.R_reads' HO180.out).2.1);rintro e w51 ⟨rfl,hb⟩;have n0_ := Aside0.mk (Kd.R_below (rM HO155.out) hb);have n1_ := Aside0.mk (Kd.R_below (rM HO158.out) hb);have n2_ := Aside0.mk (Kd.R_below (rM HO162.out) hb);have n3_ := Aside0.mk (Kd.R_below (rM HO165.out) hb);have n4_ := Aside0.mk (Kd.R_below (rM HO169.out) hb);have n5_ := Aside0.mk (Kd.R_below (rM HO172.out) hb);have n6_ := Aside0.mk (Kd.R_below (rM HO176.out) hb);have n7_ := Aside0.mk (Kd.R_below (rM HO180.out) hb);have n8_ := Aside0.mk (below_step (bM HB.out) hb);clear HO155;clear HO158;clear HO162;clear HO165;clear HO169;clear HO172;clear HO176;clear HO180;clear HB;have HO155 := n0_;have HO158 := n1_;have HO162 := n2_;have HO165 := n3_;have HO169 := n4_;have HO172 := n5_;have HO176 := n6_;have HO180 := n7_;have HB := n8_;clear n0_ n1_ n2_ n3_ n4_ n5_ n6_ n7_ n8_;(try clear hb);(try clear hb2);(try clear hk);(try clear hi))|((with_reducible refine gate_dst (N := 60) rfl ?_);(try (refine gate_guard (by rfl) ?_;dsimp only));refine Kd.R_lit k45 _ 45 ?hg (N := 60) ?hd (xs := ([(⟨(⟨#[97,47,120]⟩ : ByteArray),1⟩ : S45),(⟨(⟨#[97,47,121,47,122]⟩ : ByteArray),1⟩ : S45),(⟨(⟨#[98]⟩ : ByteArray),1⟩ : S45)] : List (S45))) (inner := [.string (⟨#[97,47,120]⟩ : ByteArray),.int .i64 1,.string (⟨#[97,47,121,47,122]⟩ : ByteArray),.int .i64 1,.string (⟨#[98]⟩ : ByteArray),.int .i64 1]) (ok := fun _ => True) (okp := fun _ => True) ?hr ?hp (fun _ hk => hk) trivial (Below.refl _ _) (Nat.le_refl _) (by simp) ?_;(case hd => rfl);(case hg => rfl);(case hr => first|(go_simp;done)|(go_simp;rfl));(case hp => exact (Reps.c2 (show Kd.M k45 _ _ _ (⟨(⟨#[97,47,120]⟩ : ByteArray),1⟩ : S45) [.string (⟨#[97,47,120]⟩ : ByteArray),.int .i64 1] from (k45_mkM _ _ _ (⟨(⟨#[97,47,120]⟩ : ByteArray),1⟩ : S45) )) (Reps.c2 (show Kd.M k45 _ _ _ (⟨(⟨#[97,47,121,47,122]⟩ : ByteArray),1⟩ : S45) [.string (⟨#[97,47,121,47,122]⟩ : ByteArray),.int .i64 1] from (k45_mkM _ _ _ (⟨(⟨#[97,47,121,47,122]⟩ : ByteArray),1⟩ : S45) )) (Reps.c2 (show Kd.M k45 _ _ _ (⟨(⟨#[98]⟩ : ByteArray),1⟩ : S45) [.string (⟨#[98]⟩ : ByteArray),.int .i64 1] from (k45_mkM _ _ _ (⟨(⟨#[98]⟩ : ByteArray),1⟩ : S45) )) (Reps.none _ _)))));intro v183 w52 ho53 hb hg_ hnew_;clear hg_ hnew_;(first|rw [← Ny182.out] at ho53|(simp only [Int.reduceToNat] at ho53;rw [← Ny182.out] at ho53));have n0_ := Aside0.mk (Kd.R_elder' (rM HO155.out) (Kd.R_base ho53) hb);have n1_ := Aside0.mk (Kd.R_below (rM HO158.out) hb);have n2_ := Aside0.mk (Kd.R_elder' (rM HO162.out) (Kd.R_base ho53) hb);have n3_ := Aside0.mk (Kd.R_below (rM HO165.out) hb);have n4_ := Aside0.mk (Kd.R_elder' (rM HO169.out) (Kd.R_base ho53) hb);have n5_ := Aside0.mk (Kd.R_elder' (rM HO172.out) (Kd.R_base ho53) hb);have n6_ := Aside0.mk (Kd.R_elder' (rM HO176.out) (Kd.R_base ho53) hb);have n7_ := Aside0.mk (Kd.R_elder' (rM HO180.out) (Kd.R_base ho53) hb);have n8_ := Aside0.mk (Kd.R_lower (Kd.R_new' (Kd.R_new' (Kd.R_new' (Kd.R_new' (Kd.R_new' (Kd.R_new' ho53 (Kd.R_lt (rM HO155.out))) (Kd.R_lt (rM HO162.out))) (Kd.R_lt (rM HO169.out))) (Kd.R_lt (rM HO172.out))) (Kd.R_lt (rM HO176.out))) (Kd.R_lt (rM HO180.out))) (below_size (bM HB.out)));have n9_ := Aside0.mk (below_step (bM HB.out) hb);clear HO155;clear HO158;clear HO162;clear HO165;clear HO169;clear HO172;clear HO176;clear HO180;clear HB;have HO155 := n0_;have HO158 := n1_;have HO162 := n2_;have HO165 := n3_;have HO169 := n4_;have HO172 := n5_;have HO176 := n6_;have HO180 := n7_;have HO184 := n8_;have HB := n9_;clear n0_ n1_ n2_ n3_ n4_ n5_ n6_ n7_ n8_ n9_;clear hb ho53;obtain ⟨Ao54,co54,eo54⟩ := Kd.R_slice HO184.out;subst eo54)|((with_reducible refine gate_callee (f := 26) rfl ?_);refine goesL_ (some 62) rfl rfl Tryd.func26 (by kernel_rfl) rfl #[.slice Ao54 y182.length co54,.string (⟨#[]⟩ : ByteArray)] rfl (by (try simp only [List.map_toArray,List.map_cons,List.map_nil]);first|done|rfl|(simp only [List.length_drop,List.length_take];rfl)) ?_;(with_reducible refine (tree_Names.calls k _ _ y182 (⟨#[]⟩ : ByteArray) t185 _ ?side1 ?side2 A11.out).mono ?_);(case side1 => exact cM (Kd.R_reads' HO184.out).2.2);(case side2 => exact (Kd.R_reads' HO184.out).2.1);rintro e w55 ⟨v186,rfl,ho0,hb⟩;refine ⟨_,rfl,?_⟩;have n0_ := Aside0.mk (Kd.R_below (rM HO155.out) hb);have n1_ := Aside0.mk (Kd.R_below (rM HO158.out) hb);have n2_ := Aside0.mk (Kd.R_below (rM HO162.out) hb);have n3_ := Aside0.mk (Kd.R_below (rM HO165.out) hb);have n4_ := Aside0.mk (Kd.R_below (rM HO169.out) hb);have n5_ := Aside0.mk (Kd.R_below (rM HO172.out) hb);have n6_ := Aside0.mk (Kd.R_below (rM HO176.out) hb);have n7_ := Aside0.mk (Kd.R_below (rM HO180.out) hb);have n8_ := Aside0.mk (Kd.R_below (rM HO184.out) hb);have n9_ := Aside0.mk (Kd.R_lower ho0 (below_size (bM HB.out)));have n10_ := Aside0.mk (below_step (bM HB.out) hb);clear HO155;clear HO158;clear HO162;clear HO165;clear HO169;clear HO172;clear HO176;clear HO180;clear HO184;clear HB;have HO155 := n0_;have HO158 := n1_;have HO162 := n2_;have HO165 := n3_;have HO169 := n4_;have HO172 := n5_;have HO176 := n6_;have HO180 := n7_;have HO184 := n8_;have HO187 := n9_;have HB := n10_;clear n0_ n1_ n2_ n3_ n4_ n5_ n6_ n7_ n8_ n9_ n10_;(try clear hb);(try clear hb2);(try clear hk);(try clear hi);(try clear ho0))|((with_reducible refine gate_dst (N := 63) rfl ?_);(try (refine gate_guard (by rfl) ?_;dsimp only));refine Kd.R_lit Kd.string _ 9 ?hg (N := 63) ?hd (xs := ([(⟨#[97]⟩ : ByteArray),(⟨#[98]⟩ : ByteArray)] : List ByteArray)) (inner := [.string (⟨#[97]⟩ : ByteArray),.string (⟨#[98]⟩ : ByteArray)]) (ok := fun _ => True) (okp := fun _ => True) ?hr ?hp (fun _ hk => hk) trivial (Below.refl _ _) (Nat.le_refl _) (by simp) ?_;(case hd => rfl);(case hg => rfl);(case hr => first|(go_simp;done)|(go_simp;rfl));(case hp => exact (Reps.one (show Kd.M Kd.string _ _ _ (⟨#[97]⟩ : ByteArray) [.string (⟨#[97]⟩ : ByteArray)] from rfl) (Reps.one (show Kd.M Kd.string _ _ _ (⟨#[98]⟩ : ByteArray) [.string (⟨#[98]⟩ : ByteArray)] from rfl) (Reps.none _ _))));intro v189 w56 ho57 hb hg_ hnew_;clear hg_ hnew_;(first|rw [← Ny188.out] at ho57|(simp only [Int.reduceToNat] at ho57;rw [← Ny188.out] at ho57));have n0_ := Aside0.mk (Kd.R_below (rM HO155.out) hb);have n1_ := Aside0.mk (Kd.R_below (rM HO158.out) hb);have n2_ := Aside0.mk (Kd.R_below (rM HO162.out) hb);have n3_ := Aside0.mk (Kd.R_below (rM HO165.out) hb);have n4_ := Aside0.mk (Kd.R_below (rM HO169.out) hb);have n5_ := Aside0.mk (Kd.R_below (rM HO172.out) hb);have n6_ := Aside0.mk (Kd.R_below (rM HO176.out) hb);have n7_ := Aside0.mk (Kd.R_below (rM HO180.out) hb);have n8_ := Aside0.mk (Kd.R_below (rM HO184.out) hb);have n9_ := Aside0.mk (Kd.R_elder' (rM HO187.out) (Kd.R_base ho57) hb);have n10_ := Aside0.mk (Kd.R_lower (Kd.R_new' ho57 (Kd.R_lt (rM HO187.out))) (below_size (bM HB.out)));have n11_ := Aside0.mk (below_step (bM HB.out) hb);clear HO155;clear HO158;clear HO162;clear HO165;clear HO169;clear HO172;clear HO176;clear HO180;clear HO184;clear HO187;clear HB;have HO155 := n0_;have HO158 := n1_;have HO162 := n2_;have HO165 := n3_;have HO169 := n4_;have HO172 := n5_;have HO176 := n6_;have HO180 := n7_;have HO184 := n8_;have HO187 := n9_;have HO190 := n10_;have HB := n11_;clear n0_ n1_ n2_ n3_ n4_ n5_ n6_ n7_ n8_ n9_ n10_ n11_;clear hb ho57;obtain ⟨Ao58,co58,eo58⟩ := Kd.R_slice HO187.out;subst eo58;obtain ⟨Ao59,co59,eo59⟩ := Kd.R_slice HO190.out;subst eo59)|((with_reducible refine gate_callee (f := 25) rfl ?_);refine goesL_ (some 64) rfl rfl Tryd.func25 (by kernel_rfl) rfl #[.slice Ao58 t185.length co58,.slice Ao59 y188.length co59] rfl (by (try simp only [List.map_toArray,List.map_cons,List.map_nil]);first|done|rfl|(simp only [List.length_drop,List.length_take];rfl)) ?_;(with_reducible refine (codesearchref01_Strings.calls k _ _ t185 _ _ y188 true _ ?side1 ?side2 ?side3 ?side4 A12.out).mono ?_);(case side1 => exact cM (Kd.R_reads' HO187.out).2.2);(case side2 => exact (Kd.R_reads' HO187.out).2.1);(case side3 => exact cM (Kd.R_reads' HO190.out).2.2);(case side4 => exact (Kd.R_reads' HO190.out).2.1);rintro e w' ⟨rfl,⟨nd,rfl⟩⟩;refine ⟨_,rfl,?_⟩)|(go_at_call 26;(with_reducible refine (tree_Names.calls k _ _ y182 (⟨#[97]⟩ : ByteArray) t192 _ ?side1 ?side2 A14.out).mono ?_);(case side1 => exact cM (Kd.R_reads' HO184.out).2.2);(case side2 => exact (Kd.R_reads' HO184.out).2.1);rintro e w60 ⟨v193,rfl,ho0,hb⟩;have n0_ := Aside0.mk (Kd.R_below (rM HO155.out) hb);have n1_ := Aside0.mk (Kd.R_below (rM HO158.out) hb);have n2_ := Aside0.mk (Kd.R_below (rM HO162.out) hb);have n3_ := Aside0.mk (Kd.R_below (rM HO165.out) hb);have n4_ := Aside0.mk (Kd.R_below (rM HO169.out) hb);have n5_ := Aside0.mk (Kd.R_below (rM HO172.out) hb);have n6_ := Aside0.mk (Kd.R_below (rM HO176.out) hb);have n7_ := Aside0.mk (Kd.R_below (rM HO180.out) hb);have n8_ := Aside0.mk (Kd.R_below (rM HO184.out) hb);have n9_ := Aside0.mk (Kd.R_elder' (rM HO187.out) (Kd.R_base ho0) hb);have n10_ := Aside0.mk (Kd.R_elder' (rM HO190.out) (Kd.R_base ho0) hb);have n11_ := Aside0.mk (Kd.R_lower (Kd.R_new' (Kd.R_new' ho0 (Kd.R_lt (rM HO187.out))) (Kd.R_lt (rM HO190.out))) (below_size (bM HB.out)));have n12_ := Aside0.mk (below_step (bM HB.out) hb);clear HO155;clear HO158;clear HO162;clear HO165;clear HO169;clear HO172;clear HO176;clear HO180;clear HO184;clear HO187;clear HO190;clear HB;have HO155 := n0_;have HO158 := n1_;have HO162 := n2_;have HO165 := n3_;have HO169 := n4_;have HO172 := n5_;have HO176 := n6_;have HO180 := n7_;have HO184 := n8_;have HO187 := n9_;have HO190 := n10_;have HO194 := n11_;have HB := n12_;clear n0_ n1_ n2_ n3_ n4_ n5_ n6_ n7_ n8_ n9_ n10_ n11_ n12_;(try clear hb);(try clear hb2);(try clear hk);(try clear hi);(try clear ho0))|((with_reducible refine gate_dst (N := 69) rfl ?_);(try (refine gate_guard (by rfl) ?_;dsimp only));refine Kd.R_lit Kd.string _ 9 ?hg (N := 69) ?hd (xs := ([(⟨#[120]⟩ : ByteArray),(⟨#[121]⟩ : ByteArray)] : List ByteArray)) (inner := [.string (⟨#[120]⟩ : ByteArray),.string (⟨#[121]⟩ : ByteArray)]) (ok := fun _ => True) (okp := fun _ => True) ?hr ?hp (fun _ hk => hk) trivial (Below.refl _ _) (Nat.le_refl _) (by simp) ?_;(case hd => rfl);(case hg => rfl);(case hr => first|(go_simp;done)|(go_simp;rfl));(case hp => exact (Reps.one (show Kd.M Kd.string _ _ _ (⟨#[120]⟩ : ByteArray) [.string (⟨#[120]⟩ : ByteArray)] from rfl) (Reps.one (show Kd.M Kd.string _ _ _ (⟨#[121]⟩ : ByteArray) [.string (⟨#[121]⟩ : ByteArray)] from rfl) (Reps.none _ _))));intro v196 w61 ho62 hb hg_ hnew_;clear hg_ hnew_;(first|rw [← Ny195.out] at ho62|(simp only [Int.reduceToNat] at ho62;rw [← Ny195.out] at ho62));have n0_ := Aside0.mk (Kd.R_below (rM HO155.out) hb);have n1_ := Aside0.mk (Kd.R_below (rM HO158.out) hb);have n2_ := Aside0.mk (Kd.R_below (rM HO162.out) hb);have n3_ := Aside0.mk (Kd.R_below (rM HO165.out) hb);have n4_ := Aside0.mk (Kd.R_below (rM HO169.out) hb);have n5_ := Aside0.mk (Kd.R_below (rM HO172.out) hb);have n6_ := Aside0.mk (Kd.R_below (rM HO176.out) hb);have n7_ := Aside0.mk (Kd.R_below (rM HO180.out) hb);have n8_ := Aside0.mk (Kd.R_below (rM HO184.out) hb);have n9_ := Aside0.mk (Kd.R_elder' (rM HO187.out) (Kd.R_base ho62) hb);have n10_ := Aside0.mk (Kd.R_elder' (rM HO190.out) (Kd.R_base ho62) hb);have n11_ := Aside0.mk (Kd.R_elder' (rM HO194.out) (Kd.R_base ho62) hb);have n12_ := Aside0.mk (Kd.R_lower (Kd.R_new' (Kd.R_new' (Kd.R_new' ho62 (Kd.R_lt (rM HO187.out))) (Kd.R_lt (rM HO190.out))) (Kd.R_lt (rM HO194.out))) (below_size (bM HB.out)));have n13_ := Aside0.mk (below_step (bM HB.out) hb);clear HO155;clear HO158;clear HO162;clear HO165;clear HO169;clear HO172;clear HO176;clear HO180;clear HO184;clear HO187;clear HO190;clear HO194;clear HB;have HO155 := n0_;have HO158 := n1_;have HO162 := n2_;have HO165 := n3_;have HO169 := n4_;have HO172 := n5_;have HO176 := n6_;have HO180 := n7_;have HO184 := n8_;have HO187 := n9_;have HO190 := n10_;have HO194 := n11_;have HO197 := n12_;have HB := n13_;clear n0_ n1_ n2_ n3_ n4_ n5_ n6_ n7_ n8_ n9_ n10_ n11_ n12_ n13_;clear hb ho62;obtain ⟨Ao63,co63,eo63⟩ := Kd.R_slice HO194.out;subst eo63;obtain ⟨Ao64,co64,eo64⟩ := Kd.R_slice HO197.out;subst eo64)|(go_at_call 25;(with_reducible refine (codesearchref01_Strings.calls k _ _ t192 _ _ y195 true _ ?side1 ?side2 ?side3 ?side4 A15.out).mono ?_);(case side1 => exact cM (Kd.R_reads' HO194.out).2.2);(case side2 => exact (Kd.R_reads' HO194.out).2.1);(case side3 => exact cM (Kd.R_reads' HO197.out).2.2);(case side4 => exact (Kd.R_reads' HO197.out).2.1);rintro e w' ⟨rfl,⟨nd,rfl⟩⟩)|(go_at_call 23;(with_reducible refine (tree_Under.calls k _ _ y182 (⟨#[97]⟩ : ByteArray) t199 _ ?side1 ?side2 A17.out).mono ?_);(case side1 => exact cM (Kd.R_reads' HO184.out).2.2);(case side2 => exact (Kd.R_reads' HO184.out).2.1);rintro e w65 ⟨v200,rfl,ho0,hb⟩;have n0_ := Aside0.mk (Kd.R_elder' (rM HO155.out) (Kd.R_base ho0) hb);have n1_ := Aside0.mk (Kd.R_below (rM HO158.out) hb);have n2_ := Aside0.mk (Kd.R_elder' (rM HO162.out) (Kd.R_base ho0) hb);have n3_ := Aside0.mk (Kd.R_below (rM HO165.out) hb);have n4_ := Aside0.mk (Kd.R_elder' (rM HO169.out) (Kd.R_base ho0) hb);have n5_ := Aside0.mk (Kd.R_elder' (rM HO172.out) (Kd.R_base ho0) hb);have n6_ := Aside0.mk (Kd.R_elder' (rM HO176.out) (Kd.R_base ho0) hb);have n7_ := Aside0.mk (Kd.R_elder' (rM HO180.out) (Kd.R_base ho0) hb);have n8_ := Aside0.mk (Kd.R_elder' (rM HO184.out) (Kd.R_base ho0) hb);have n9_ := Aside0.mk (Kd.R_below (rM HO187.out) hb);have n10_ := Aside0.mk (Kd.R_below (rM HO190.out) hb);have n11_ := Aside0.mk (Kd.R_below (rM HO194.out) hb);have n12_ := Aside0.mk (Kd.R_below (rM HO197.out) hb);have n13_ := Aside0.mk (Kd.R_lower (Kd.R_new' (Kd.R_new' (Kd.R_new' (Kd.R_new' (Kd.R_new' (Kd.R_new' (Kd.R_new' ho0 (Kd.R_lt (rM HO155.out))) (Kd.R_lt (rM HO162.out))) (Kd.R_lt (rM HO169.out))) (Kd.R_lt (rM HO172.out))) (Kd.R_lt (rM HO176.out))) (Kd.R_lt (rM HO180.out))) (Kd.R_lt (rM HO184.out))) (below_size (bM HB.out)));have n14_ := Aside0.mk (below_step (bM HB.out) hb);clear HO155;clear HO158;clear HO162;clear HO165;clear HO169;clear HO172;clear HO176;clear HO180;clear HO184;clear HO187;clear HO190;clear HO194;clear HO197;clear HB;have HO155 := n0_;have HO158 := n1_;have HO162 := n2_;have HO165 := n3_;have HO169 := n4_;have HO172 := n5_;have HO176 := n6_;have HO180 := n7_;have HO184 := n8_;have HO187 := n9_;have HO190 := n10_;have HO194 := n11_;have HO197 := n12_;have HO201 := n13_;have HB := n14_;clear n0_ n1_ n2_ n3_ n4_ n5_ n6_ n7_ n8_ n9_ n10_ n11_ n12_ n13_ n14_;(try clear hb);(try clear hb2);(try clear hk);(try clear hi);(try clear ho0);obtain ⟨Ao66,co66,eo66⟩ := Kd.R_slice HO201.out;subst eo66)|((with_reducible refine gate_callee (f := 14) rfl ?_);refine goesL_ (some 81) rfl rfl Tryd.func14 (by kernel_rfl) rfl #[.slice Ao54 y182.length co54,.string (⟨#[98]⟩ : ByteArray)] rfl (by (try simp only [List.map_toArray,List.map_cons,List.map_nil]);first|done|rfl|(simp only [List.length_drop,List.length_take];rfl)) ?_;(with_reducible refine (tree_Get.calls k _ _ y182 (⟨#[98]⟩ : ByteArray) t202 true _ ?side1 ?side2 A19.out).mono ?_);(case side1 => exact cM (Kd.R_reads' HO184.out).2.2);(case side2 => exact (Kd.R_reads' HO184.out).2.1);rintro e w67 ⟨rfl,hb⟩;refine ⟨_,rfl,?_⟩;have n0_ := Aside0.mk (Kd.R_below (rM HO155.out) hb);have n1_ := Aside0.mk (Kd.R_below (rM HO158.out) hb);have n2_ := Aside0.mk (Kd.R_below (rM HO162.out) hb);have n3_ := Aside0.mk (Kd.R_below (rM HO165.out) hb);have n4_ := Aside0.mk (Kd.R_below (rM HO169.out) hb);have n5_ := Aside0.mk (Kd.R_below (rM HO172.out) hb);have n6_ := Aside0.mk (Kd.R_below (rM HO176.out) hb);have n7_ := Aside0.mk (Kd.R_below (rM HO180.out) hb);have n8_ := Aside0.mk (Kd.R_below (rM HO184.out) hb);have n9_ := Aside0.mk (Kd.R_below (rM HO187.out) hb);have n10_ := Aside0.mk (Kd.R_below (rM HO190.out) hb);have n11_ := Aside0.mk (Kd.R_below (rM HO194.out) hb);have n12_ := Aside0.mk (Kd.R_below (rM HO197.out) hb);have n13_ := Aside0.mk (Kd.R_below (rM HO201.out) hb);have n14_ := Aside0.mk (below_step (bM HB.out) hb);clear HO155;clear HO158;clear HO162;clear HO165;clear HO169;clear HO172;clear HO176;clear HO180;clear HO184;clear HO187;clear HO190;clear HO194;clear HO197;clear HO201;clear HB;have HO155 := n0_;have HO158 := n1_;have HO162 := n2_;have HO165 := n3_;have HO169 := n4_;have HO172 := n5_;have HO176 := n6_;have HO180 := n7_;have HO184 := n8_;have HO187 := n9_;have HO190 := n10_;have HO194 := n11_;have HO197 := n12_;have HO201 := n13_;have HB := n14_;clear n0_ n1_ n2_ n3_ n4_ n5_ n6_ n7_ n8_ n9_ n10_ n11_ n12_ n13_ n14_;(try clear hb);(try clear hb2);(try clear hk);(try clear hi))|((with_reducible refine gate_dst (N := 86) rfl ?_);(try (refine gate_guard (by rfl) ?_;dsimp only));refine Kd.R_lit k45 _ 45 ?hg (N := 86) ?hd (xs := ([(⟨(⟨#[97]⟩ : ByteArray),1⟩ : S45),(⟨(⟨#[98]⟩ : ByteArray),1⟩ : S45)] : List (S45))) (inner := [.string (⟨#[97]⟩ : ByteArray),.int .i64 1,.string (⟨#[98]⟩ : ByteArray),.int .i64 1]) (ok := fun _ => True) (okp := fun _ => True) ?hr ?hp (fun _ hk => hk) trivial (Below.refl _ _) (Nat.le_refl _) (by simp) ?_;(case hd => rfl);(case hg => rfl);(case hr => first|(go_simp;done)|(go_simp;rfl));(case hp => exact (Reps.c2 (show Kd.M k45 _ _ _ (⟨(⟨#[97]⟩ : ByteArray),1⟩ : S45) [.string (⟨#[97]⟩ : ByteArray),.int .i64 1] from (k45_mkM _ _ _ (⟨(⟨#[97]⟩ : ByteArray),1⟩ : S45) )) (Reps.c2 (show Kd.M k45 _ _ _ (⟨(⟨#[98]⟩ : ByteArray),1⟩ : S45) [.string (⟨#[98]⟩ : ByteArray),.int .i64 1] from (k45_mkM _ _ _ (⟨(⟨#[98]⟩ : ByteArray),1⟩ : S45) )) (Reps.none _ _))));intro v205 w68 ho69 hb hg_ hnew_;clear hg_ hnew_;(first|rw [← Ny204.out] at ho69|(simp only [Int.reduceToNat] at ho69;rw [← Ny204.out] at ho69));have n0_ := Aside0.mk (Kd.R_elder' (rM HO155.out) (Kd.R_base ho69) hb);have n1_ := Aside0.mk (Kd.R_below (rM HO158.out) hb);have n2_ := Aside0.mk (Kd.R_elder' (rM HO162.out) (Kd.R_base ho69) hb);have n3_ := Aside0.mk (Kd.R_below (rM HO165.out) hb);have n4_ := Aside0.mk (Kd.R_elder' (rM HO169.out) (Kd.R_base ho69) hb);have n5_ := Aside0.mk (Kd.R_elder' (rM HO172.out) (Kd.R_base ho69) hb);have n6_ := Aside0.mk (Kd.R_elder' (rM HO176.out) (Kd.R_base ho69) hb);have n7_ := Aside0.mk (Kd.R_elder' (rM HO180.out) (Kd.R_base ho69) hb);have n8_ := Aside0.mk (Kd.R_elder' (rM HO184.out) (Kd.R_base ho69) hb);have n9_ := Aside0.mk (Kd.R_below (rM HO187.out) hb);have n10_ := Aside0.mk (Kd.R_below (rM HO190.out) hb);have n11_ := Aside0.mk (Kd.R_below (rM HO194.out) hb);have n12_ := Aside0.mk (Kd.R_below (rM HO197.out) hb);have n13_ := Aside0.mk (Kd.R_elder' (rM HO201.out) (Kd.R_base ho69) hb);have n14_ := Aside0.mk (Kd.R_lower (Kd.R_new' (Kd.R_new' (Kd.R_new' (Kd.R_new' (Kd.R_new' (Kd.R_new' (Kd.R_new' (Kd.R_new' ho69 (Kd.R_lt (rM HO155.out))) (Kd.R_lt (rM HO162.out))) (Kd.R_lt (rM HO169.out))) (Kd.R_lt (rM HO172.out))) (Kd.R_lt (rM HO176.out))) (Kd.R_lt (rM HO180.out))) (Kd.R_lt (rM HO184.out))) (Kd.R_lt (rM HO201.out))) (below_size (bM HB.out)));have n15_ := Aside0.mk (below_step (bM HB.out) hb);clear HO155;clear HO158;clear HO162;clear HO165;clear HO169;clear HO172;clear HO176;clear HO180;clear HO184;clear HO187;clear HO190;clear HO194;clear HO197;clear HO201;clear HB;have HO155 := n0_;have HO158 := n1_;have HO162 := n2_;have HO165 := n3_;have HO169 := n4_;have HO172 := n5_;have HO176 := n6_;have HO180 := n7_;have HO184 := n8_;have HO187 := n9_;have HO190 := n10_;have HO194 := n11_;have HO197 := n12_;have HO201 := n13_;have HO206 := n14_;have HB := n15_;clear n0_ n1_ n2_ n3_ n4_ n5_ n6_ n7_ n8_ n9_ n10_ n11_ n12_ n13_ n14_ n15_;clear hb ho69)|((with_reducible refine gate_dst (N := 91) rfl ?_);(try (refine gate_guard (by rfl) ?_;dsimp only));refine Kd.R_lit k45 _ 45 ?hg (N := 91) ?hd (xs := ([(⟨(⟨#[97]⟩ : ByteArray),2⟩ : S45),(⟨(⟨#[98]⟩ : ByteArray),1⟩ : S45)] : List (S45))) (inner := [.string (⟨#[97]⟩ : ByteArray),.int .i64 2,.string (⟨#[98]⟩ : ByteArray),.int .i64 1]) (ok := fun _ => True) (okp := fun _ => True) ?hr ?hp (fun _ hk => hk) trivial (Below.refl _ _) (Nat.le_refl _) (by simp) ?_;(case hd => rfl);(case hg => rfl);(case hr => first|(go_simp;done)|(go_simp;rfl));(case hp => exact (Reps.c2 (show Kd.M k45 _ _ _ (⟨(⟨#[97]⟩ : ByteArray),2⟩ : S45) [.string (⟨#[97]⟩ : ByteArray),.int .i64 2] from (k45_mkM _ _ _ (⟨(⟨#[97]⟩ : ByteArray),2⟩ : S45) )) (Reps.c2 (show Kd.M k45 _ _ _ (⟨(⟨#[98]⟩ : ByteArray),1⟩ : S45) [.string (⟨#[98]⟩ : ByteArray),.int .i64 1] from (k45_mkM _ _ _ (⟨(⟨#[98]⟩ : ByteArray),1⟩ : S45) )) (Reps.none _ _))));intro v208 w70 ho71 hb hg_ hnew_;clear hg_ hnew_;(first|rw [← Ny207.out] at ho71|(simp only [Int.reduceToNat] at ho71;rw [← Ny207.out] at ho71));have n0_ := Aside0.mk (Kd.R_elder' (rM HO155.out) (Kd.R_base ho71) hb);have n1_ := Aside0.mk (Kd.R_below (rM HO158.out) hb);have n2_ := Aside0.mk (Kd.R_elder' (rM HO162.out) (Kd.R_base ho71) hb);have n3_ := Aside0.mk (Kd.R_below (rM HO165.out) hb);have n4_ := Aside0.mk (Kd.R_elder' (rM HO169.out) (Kd.R_base ho71) hb);have n5_ := Aside0.mk (Kd.R_elder' (rM HO172.out) (Kd.R_base ho71) hb);have n6_ := Aside0.mk (Kd.R_elder' (rM HO176.out) (Kd.R_base ho71) hb);have n7_ := Aside0.mk (Kd.R_elder' (rM HO180.out) (Kd.R_base ho71) hb);have n8_ := Aside0.mk (Kd.R_elder' (rM HO184.out) (Kd.R_base ho71) hb);have n9_ := Aside0.mk (Kd.R_below (rM HO187.out) hb);have n10_ := Aside0.mk (Kd.R_below (rM HO190.out) hb);have n11_ := Aside0.mk (Kd.R_below (rM HO194.out) hb);have n12_ := Aside0.mk (Kd.R_below (rM HO197.out) hb);have n13_ := Aside0.mk (Kd.R_elder' (rM HO201.out) (Kd.R_base ho71) hb);have n14_ := Aside0.mk (Kd.R_elder' (rM HO206.out) (Kd.R_base ho71) hb);have n15_ := Aside0.mk (Kd.R_lower (Kd.R_new' (Kd.R_new' (Kd.R_new' (Kd.R_new' (Kd.R_new' (Kd.R_new' (Kd.R_new' (Kd.R_new' (Kd.R_new' ho71 (Kd.R_lt (rM HO155.out))) (Kd.R_lt (rM HO162.out))) (Kd.R_lt (rM HO169.out))) (Kd.R_lt (rM HO172.out))) (Kd.R_lt (rM HO176.out))) (Kd.R_lt (rM HO180.out))) (Kd.R_lt (rM HO184.out))) (Kd.R_lt (rM HO201.out))) (Kd.R_lt (rM HO206.out))) (below_size (bM HB.out)));have n16_ := Aside0.mk (below_step (bM HB.out) hb);clear HO155;clear HO158;clear HO162;clear HO165;clear HO169;clear HO172;clear HO176;clear HO180;clear HO184;clear HO187;clear HO190;clear HO194;clear HO197;clear HO201;clear HO206;clear HB;have HO155 := n0_;have HO158 := n1_;have HO162 := n2_;have HO165 := n3_;have HO169 := n4_;have HO172 := n5_;have HO176 := n6_;have HO180 := n7_;have HO184 := n8_;have HO187 := n9_;have HO190 := n10_;have HO194 := n11_;have HO197 := n12_;have HO201 := n13_;have HO206 := n14_;have HO209 := n15_;have HB := n16_;clear n0_ n1_ n2_ n3_ n4_ n5_ n6_ n7_ n8_ n9_ n10_ n11_ n12_ n13_ n14_ n15_ n16_;clear hb ho71)|((with_reducible refine gate_dst (N := 94) rfl ?_);(try (refine gate_guard (by rfl) ?_;dsimp only));refine Kd.R_lit k45 _ 45 ?hg (N := 94) ?hd (xs := ([(⟨(⟨#[97]⟩ : ByteArray),3⟩ : S45),(⟨(⟨#[99]⟩ : ByteArray),3⟩ : S45)] : List (S45))) (inner := [.string (⟨#[97]⟩ : ByteArray),.int .i64 3,.string (⟨#[99]⟩ : ByteArray),.int .i64 3]) (ok := fun _ => True) (okp := fun _ => True) ?hr ?hp (fun _ hk => hk) trivial (Below.refl _ _) (Nat.le_refl _) (by simp) ?_;(case hd => rfl);(case hg => rfl);(case hr => first|(go_simp;done)|(go_simp;rfl));(case hp => exact (Reps.c2 (show Kd.M k45 _ _ _ (⟨(⟨#[97]⟩ : ByteArray),3⟩ : S45) [.string (⟨#[97]⟩ : ByteArray),.int .i64 3] from (k45_mkM _ _ _ (⟨(⟨#[97]⟩ : ByteArray),3⟩ : S45) )) (Reps.c2 (show Kd.M k45 _ _ _ (⟨(⟨#[99]⟩ : ByteArray),3⟩ : S45) [.string (⟨#[99]⟩ : ByteArray),.int .i64 3] from (k45_mkM _ _ _ (⟨(⟨#[99]⟩ : ByteArray),3⟩ : S45) )) (Reps.none _ _))));intro v211 w72 ho73 hb hg_ hnew_;clear hg_ hnew_;(first|rw [← Ny210.out] at ho73|(simp only [Int.reduceToNat] at ho73;rw [← Ny210.out] at ho73));have n0_ := Aside0.mk (Kd.R_elder' (rM HO155.out) (Kd.R_base ho73) hb);have n1_ := Aside0.mk (Kd.R_below (rM HO158.out) hb);have n2_ := Aside0.mk (Kd.R_elder' (rM HO162.out) (Kd.R_base ho73) hb);have n3_ := Aside0.mk (Kd.R_below (rM HO165.out) hb);have n4_ := Aside0.mk (Kd.R_elder' (rM HO169.out) (Kd.R_base ho73) hb);have n5_ := Aside0.mk (Kd.R_elder' (rM HO172.out) (Kd.R_base ho73) hb);have n6_ := Aside0.mk (Kd.R_elder' (rM HO176.out) (Kd.R_base ho73) hb);have n7_ := Aside0.mk (Kd.R_elder' (rM HO180.out) (Kd.R_base ho73) hb);have n8_ := Aside0.mk (Kd.R_elder' (rM HO184.out) (Kd.R_base ho73) hb);have n9_ := Aside0.mk (Kd.R_below (rM HO187.out) hb);have n10_ := Aside0.mk (Kd.R_below (rM HO190.out) hb);have n11_ := Aside0.mk (Kd.R_below (rM HO194.out) hb);have n12_ := Aside0.mk (Kd.R_below (rM HO197.out) hb);have n13_ := Aside0.mk (Kd.R_elder' (rM HO201.out) (Kd.R_base ho73) hb);have n14_ := Aside0.mk (Kd.R_elder' (rM HO206.out) (Kd.R_base ho73) hb);have n15_ := Aside0.mk (Kd.R_elder' (rM HO209.out) (Kd.R_base ho73) hb);have n16_ := Aside0.mk (Kd.R_lower (Kd.R_new' (Kd.R_new' (Kd.R_new' (Kd.R_new' (Kd.R_new' (Kd.R_new' (Kd.R_new' (Kd.R_new' (Kd.R_new' (Kd.R_new' ho73 (Kd.R_lt (rM HO155.out))) (Kd.R_lt (rM HO162.out))) (Kd.R_lt (rM HO169.out))) (Kd.R_lt (rM HO172.out))) (Kd.R_lt (rM HO176.out))) (Kd.R_lt (rM HO180.out))) (Kd.R_lt (rM HO184.out))) (Kd.R_lt (rM HO201.out))) (Kd.R_lt (rM HO206.out))) (Kd.R_lt (rM HO209.out))) (below_size (bM HB.out)));have n17_ := Aside0.mk (below_step (bM HB.out) hb);clear HO155;clear HO158;clear HO162;clear HO165;clear HO169;clear HO172;clear HO176;clear HO180;clear HO184;clear HO187;clear HO190;clear HO194;clear HO197;clear HO201;clear HO206;clear HO209;clear HB;have HO155 := n0_;have HO158 := n1_;have HO162 := n2_;have HO165 := n3_;have HO169 := n4_;have HO172 := n5_;have HO176 := n6_;have HO180 := n7_;have HO184 := n8_;have HO187 := n9_;have HO190 := n10_;have HO194 := n11_;have HO197 := n12_;have HO201 := n13_;have HO206 := n14_;have HO209 := n15_;have HO212 := n16_;have HB := n17_;clear n0_ n1_ n2_ n3_ n4_ n5_ n6_ n7_ n8_ n9_ n10_ n11_ n12_ n13_ n14_ n15_ n16_ n17_;clear hb ho73;obtain ⟨Ao74,co74,eo74⟩ := Kd.R_slice HO206.out;subst eo74;obtain ⟨Ao75,co75,eo75⟩ := Kd.R_slice HO209.out;subst eo75;obtain ⟨Ao76,co76,eo76⟩ := Kd.R_slice HO212.out;subst eo76)|((with_reducible refine gate_callee (f := 28) rfl ?_);refine goesL_ (some 95) rfl rfl Tryd.func28 (by kernel_rfl) rfl #[.slice Ao74 y204.length co74,.slice Ao75 y207.length co75,.slice Ao76 y210.length co76] rfl (by (try simp only [List.map_toArray,List.map_cons,List.map_nil]);first|done|rfl|(simp only [List.length_drop,List.length_take];rfl)) ?_;(with_reducible refine (tree_Merge.calls _ _ y204 _ _ y207 _ _ y210 t213 t214 _ ?side1 ?side2 ?side3 ?side4 ?side5 ?side6 A20.out).mono ?_);(case side1 => exact cM (Kd.R_reads' HO206.out).2.2);(case side2 => exact (Kd.R_reads' HO206.out).2.1);(case side3 => exact cM (Kd.R_reads' HO209.out).2.2);(case side4 => exact (Kd.R_reads' HO209.out).2.1);(case side5 => exact cM (Kd.R_reads' HO212.out).2.2);(case side6 => exact (Kd.R_reads' HO212.out).2.1);rintro e w77 ⟨v215,v217,rfl,ho0,ho1,hb⟩;refine ⟨_,rfl,?_⟩;have n0_ := Aside0.mk (Kd.R_elder' (rM HO155.out) (Kd.R_base ho0) hb);have n1_ := Aside0.mk (Kd.R_below (rM HO158.out) hb);have n2_ := Aside0.mk (Kd.R_elder' (rM HO162.out) (Kd.R_base ho0) hb);have n3_ := Aside0.mk (Kd.R_below (rM HO165.out) hb);have n4_ := Aside0.mk (Kd.R_elder' (rM HO169.out) (Kd.R_base ho0) hb);have n5_ := Aside0.mk (Kd.R_elder' (rM HO172.out) (Kd.R_base ho0) hb);have n6_ := Aside0.mk (Kd.R_elder' (rM HO176.out) (Kd.R_base ho0) hb);have n7_ := Aside0.mk (Kd.R_elder' (rM HO180.out) (Kd.R_base ho0) hb);have n8_ := Aside0.mk (Kd.R_elder' (rM HO184.out) (Kd.R_base ho0) hb);have n9_ := Aside0.mk (Kd.R_elder' (rM HO187.out) (Kd.R_base ho1) hb);have n10_ := Aside0.mk (Kd.R_elder' (rM HO190.out) (Kd.R_base ho1) hb);have n11_ := Aside0.mk (Kd.R_elder' (rM HO194.out) (Kd.R_base ho1) hb);have n12_ := Aside0.mk (Kd.R_elder' (rM HO197.out) (Kd.R_base ho1) hb);have n13_ := Aside0.mk (Kd.R_elder' (rM HO201.out) (Kd.R_base ho0) hb);have n14_ := Aside0.mk (Kd.R_elder' (rM HO206.out) (Kd.R_base ho0) hb);have n15_ := Aside0.mk (Kd.R_elder' (rM HO209.out) (Kd.R_base ho0) hb);have n16_ := Aside0.mk (Kd.R_elder' (rM HO212.out) (Kd.R_base ho0) hb);have n17_ := Aside0.mk (Kd.R_lower (Kd.R_new' (Kd.R_new' (Kd.R_new' (Kd.R_new' (Kd.R_new' (Kd.R_new' (Kd.R_new' (Kd.R_new' (Kd.R_new' (Kd.R_new' (Kd.R_new' ho0 (Kd.R_lt (rM HO155.out))) (Kd.R_lt (rM HO162.out))) (Kd.R_lt (rM HO169.out))) (Kd.R_lt (rM HO172.out))) (Kd.R_lt (rM HO176.out))) (Kd.R_lt (rM HO180.out))) (Kd.R_lt (rM HO184.out))) (Kd.R_lt (rM HO201.out))) (Kd.R_lt (rM HO206.out))) (Kd.R_lt (rM HO209.out))) (Kd.R_lt (rM HO212.out))) (below_size (bM HB.out)));have n18_ := Aside0.mk (Kd.R_lower (Kd.R_new' (Kd.R_new' (Kd.R_new' (Kd.R_new' ho1 (Kd.R_lt (rM HO187.out))) (Kd.R_lt (rM HO190.out))) (Kd.R_lt (rM HO194.out))) (Kd.R_lt (rM HO197.out))) (below_size (bM HB.out)));have n19_ := Aside0.mk (below_step (bM HB.out) hb);clear HO155;clear HO158;clear HO162;clear HO165;clear HO169;clear HO172;clear HO176;clear HO180;clear HO184;clear HO187;clear HO190;clear HO194;clear HO197;clear HO201;clear HO206;clear HO209;clear HO212;clear HB;have HO155 := n0_;have HO158 := n1_;have HO162 := n2_;have HO165 := n3_;have HO169 := n4_;have HO172 := n5_;have HO176 := n6_;have HO180 := n7_;have HO184 := n8_;have HO187 := n9_;have HO190 := n10_;have HO194 := n11_;have HO197 := n12_;have HO201 := n13_;have HO206 := n14_;have HO209 := n15_;have HO212 := n16_;have HO216 := n17_;have HO218 := n18_;have HB := n19_;clear n0_ n1_ n2_ n3_ n4_ n5_ n6_ n7_ n8_ n9_ n10_ n11_ n12_ n13_ n14_ n15_ n16_ n17_ n18_ n19_;(try clear hb);(try clear hb2);(try clear hk);(try clear hi);(try clear ho0);(try clear ho1))|((with_reducible refine gate_callee (f := 21) rfl ?_);refine goesL_ (some 100) rfl rfl Tryd.func21 (by kernel_rfl) rfl #[.slice Ao33 y153.length co33,.slice Ao42 t159.length co42] rfl (by (try simp only [List.map_toArray,List.map_cons,List.map_nil]);first|done|rfl|(simp only [List.length_drop,List.length_take];rfl)) ?_;(with_reducible refine (tree_Diff.calls _ _ y153 _ _ t159 t219 _ ?side1 ?side2 ?side3 ?side4 A21.out).mono ?_);(case side1 => exact cM (Kd.R_reads' HO155.out).2.2);(case side2 => exact (Kd.R_reads' HO155.out).2.1);(case side3 => exact cM (Kd.R_reads' HO162.out).2.2);(case side4 => exact (Kd.R_reads' HO162.out).2.1);rintro e w78 ⟨v220,rfl,ho0,hb⟩;refine ⟨_,rfl,?_⟩;have n0_ := Aside0.mk (Kd.R_below (rM HO155.out) hb);have n1_ := Aside0.mk (Kd.R_elder' (rM HO158.out) (Kd.R_base ho0) hb);have n2_ := Aside0.mk (Kd.R_below (rM HO162.out) hb);have n3_ := Aside0.mk (Kd.R_elder' (rM HO165.out) (Kd.R_base ho0) hb);have n4_ := Aside0.mk (Kd.R_below (rM HO169.out) hb);have n5_ := Aside0.mk (Kd.R_below (rM HO172.out) hb);have n6_ := Aside0.mk (Kd.R_below (rM HO176.out) hb);have n7_ := Aside0.mk (Kd.R_below (rM HO180.out) hb);have n8_ := Aside0.mk (Kd.R_below (rM HO184.out) hb);have n9_ := Aside0.mk (Kd.R_below (rM HO187.out) hb);have n10_ := Aside0.mk (Kd.R_below (rM HO190.out) hb);have n11_ := Aside0.mk (Kd.R_below (rM HO194.out) hb);have n12_ := Aside0.mk (Kd.R_below (rM HO197.out) hb);have n13_ := Aside0.mk (Kd.R_below (rM HO201.out) hb);have n14_ := Aside0.mk (Kd.R_below (rM HO206.out) hb);have n15_ := Aside0.mk (Kd.R_below (rM HO209.out) hb);have n16_ := Aside0.mk (Kd.R_below (rM HO212.out) hb);have n17_ := Aside0.mk (Kd.R_below (rM HO216.out) hb);have n18_ := Aside0.mk (Kd.R_below (rM HO218.out) hb);have n19_ := Aside0.mk (Kd.R_lower (Kd.R_new' (Kd.R_new' ho0 (Kd.R_lt (rM HO158.out))) (Kd.R_lt (rM HO165.out))) (below_size (bM HB.out)));have n20_ := Aside0.mk (below_step (bM HB.out) hb);clear HO155;clear HO158;clear HO162;clear HO165;clear HO169;clear HO172;clear HO176;clear HO180;clear HO184;clear HO187;clear HO190;clear HO194;clear HO197;clear HO201;clear HO206;clear HO209;clear HO212;clear HO216;clear HO218;clear HB;have HO155 := n0_;have HO158 := n1_;have HO162 := n2_;have HO165 := n3_;have HO169 := n4_;have HO172 := n5_;have HO176 := n6_;have HO180 := n7_;have HO184 := n8_;have HO187 := n9_;have HO190 := n10_;have HO194 := n11_;have HO197 := n12_;have HO201 := n13_;have HO206 := n14_;have HO209 := n15_;have HO212 := n16_;have HO216 := n17_;have HO218 := n18_;have HO221 := n19_;have HB := n20_;clear n0_ n1_ n2_ n3_ n4_ n5_ n6_ n7_ n8_ n9_ n10_ n11_ n12_ n13_ n14_ n15_ n16_ n17_ n18_ n19_ n20_;(try clear hb);(try clear hb2);(try clear hk);(try clear hi);(try clear ho0))|((with_reducible refine gate_dst (N := 104) rfl ?_);(try (refine gate_guard (by rfl) ?_;dsimp only));refine Kd.R_lit k47 _ 47 ?hg (N := 104) ?hd (xs := ([(⟨(⟨#[97]⟩ : ByteArray),5⟩ : S47),(⟨(⟨#[98]⟩ : ByteArray),0⟩ : S47)] : List (S47))) (inner := [.string (⟨#[97]⟩ : ByteArray),.int .i64 5,.string (⟨#[98]⟩ : ByteArray),.int .i64 0]) (ok := fun _ => True) (okp := fun _ => True) ?hr ?hp (fun _ hk => hk) trivial (Below.refl _ _) (Nat.le_refl _) (by simp) ?_;(case hd => rfl);(case hg => rfl);(case hr => first|(go_simp;done)|(go_simp;rfl));(case hp => exact (Reps.c2 (show Kd.M k47 _ _ _ (⟨(⟨#[97]⟩ : ByteArray),5⟩ : S47) [.string (⟨#[97]⟩ : ByteArray),.int .i64 5] from (k47_mkM _ _ _ (⟨(⟨#[97]⟩ : ByteArray),5⟩ : S47) )) (Reps.c2 (show Kd.M k47 _ _ _ (⟨(⟨#[98]⟩ : ByteArray),0⟩ : S47) [.string (⟨#[98]⟩ : ByteArray),.int .i64 0] from (k47_mkM _ _ _ (⟨(⟨#[98]⟩ : ByteArray),0⟩ : S47) )) (Reps.none _ _))));intro v223 w79 ho80 hb hg_ hnew_;clear hg_ hnew_;(first|rw [← Ny222.out] at ho80|(simp only [Int.reduceToNat] at ho80;rw [← Ny222.out] at ho80));have n0_ := Aside0.mk (Kd.R_below (rM HO155.out) hb);have n1_ := Aside0.mk (Kd.R_elder' (rM HO158.out) (Kd.R_base ho80) hb);have n2_ := Aside0.mk (Kd.R_below (rM HO162.out) hb);have n3_ := Aside0.mk (Kd.R_elder' (rM HO165.out) (Kd.R_base ho80) hb);have n4_ := Aside0.mk (Kd.R_below (rM HO169.out) hb);have n5_ := Aside0.mk (Kd.R_below (rM HO172.out) hb);have n6_ := Aside0.mk (Kd.R_below (rM HO176.out) hb);have n7_ := Aside0.mk (Kd.R_below (rM HO180.out) hb);have n8_ := Aside0.mk (Kd.R_below (rM HO184.out) hb);have n9_ := Aside0.mk (Kd.R_below (rM HO187.out) hb);have n10_ := Aside0.mk (Kd.R_below (rM HO190.out) hb);have n11_ := Aside0.mk (Kd.R_below (rM HO194.out) hb);have n12_ := Aside0.mk (Kd.R_below (rM HO197.out) hb);have n13_ := Aside0.mk (Kd.R_below (rM HO201.out) hb);have n14_ := Aside0.mk (Kd.R_below (rM HO206.out) hb);have n15_ := Aside0.mk (Kd.R_below (rM HO209.out) hb);have n16_ := Aside0.mk (Kd.R_below (rM HO212.out) hb);have n17_ := Aside0.mk (Kd.R_below (rM HO216.out) hb);have n18_ := Aside0.mk (Kd.R_below (rM HO218.out) hb);have n19_ := Aside0.mk (Kd.R_elder' (rM HO221.out) (Kd.R_base ho80) hb);have n20_ := Aside0.mk (Kd.R_lower (Kd.R_new' (Kd.R_new' (Kd.R_new' ho80 (Kd.R_lt (rM HO158.out))) (Kd.R_lt (rM HO165.out))) (Kd.R_lt (rM HO221.out))) (below_size (bM HB.out)));have n21_ := Aside0.mk (below_step (bM HB.out) hb);clear HO155;clear HO158;clear HO162;clear HO165;clear HO169;clear HO172;clear HO176;clear HO180;clear HO184;clear HO187;clear HO190;clear HO194;clear HO197;clear HO201;clear HO206;clear HO209;clear HO212;clear HO216;clear HO218;clear HO221;clear HB;have HO155 := n0_;have HO158 := n1_;have HO162 := n2_;have HO165 := n3_;have HO169 := n4_;have HO172 := n5_;have HO176 := n6_;have HO180 := n7_;have HO184 := n8_;have HO187 := n9_;have HO190 := n10_;have HO194 := n11_;have HO197 := n12_;have HO201 := n13_;have HO206 := n14_;have HO209 := n15_;have HO212 := n16_;have HO216 := n17_;have HO218 := n18_;have HO221 := n19_;have HO224 := n20_;have HB := n21_;clear n0_ n1_ n2_ n3_ n4_ n5_ n6_ n7_ n8_ n9_ n10_ n11_ n12_ n13_ n14_ n15_ n16_ n17_ n18_ n19_ n20_ n21_;clear hb ho80;obtain ⟨Ao81,co81,eo81⟩ := Kd.R_slice HO221.out;subst eo81;obtain ⟨Ao82,co82,eo82⟩ := Kd.R_slice HO224.out;subst eo82)|((with_reducible refine gate_callee (f := 20) rfl ?_);refine goesL_ (some 105) rfl rfl Tryd.func20 (by kernel_rfl) rfl #[.slice Ao81 t219.length co81,.slice Ao82 y222.length co82] rfl (by (try simp only [List.map_toArray,List.map_cons,List.map_nil]);first|done|rfl|(simp only [List.length_drop,List.length_take];rfl)) ?_;(with_reducible refine (codesearchref25_Changes.calls k _ _ t219 _ _ y222 true _ ?side1 ?side2 ?side3 ?side4 A22.out).mono ?_);(case side1 => exact cM (Kd.R_reads' HO221.out).2.2);(case side2 => exact (Kd.R_reads' HO221.out).2.1);(case side3 => exact cM (Kd.R_reads' HO224.out).2.2);(case side4 => exact (Kd.R_reads' HO224.out).2.1);rintro e w' ⟨rfl,⟨nd,rfl⟩⟩;refine ⟨_,rfl,?_⟩)|((with_reducible refine gate_dst (N := 118) rfl ?_);(try (refine gate_guard (by rfl) ?_;dsimp only));refine Kd.R_lit k45 _ 45 ?hg (N := 118) ?hd (xs := ([(⟨(⟨#[97]⟩ : ByteArray),2⟩ : S45),(⟨(⟨#[99]⟩ : ByteArray),3⟩ : S45)] : List (S45))) (inner := [.string (⟨#[97]⟩ : ByteArray),.int .i64 2,.string (⟨#[99]⟩ : ByteArray),.int .i64 3]) (ok := fun _ => True) (okp := fun _ => True) ?hr ?hp (fun _ hk => hk) trivial (Below.refl _ _) (Nat.le_refl _) (by simp) ?_;(case hd => rfl);(case hg => rfl);(case hr => first|(go_simp;done)|(go_simp;rfl));(case hp => exact (Reps.c2 (show Kd.M k45 _ _ _ (⟨(⟨#[97]⟩ : ByteArray),2⟩ : S45) [.string (⟨#[97]⟩ : ByteArray),.int .i64 2] from (k45_mkM _ _ _ (⟨(⟨#[97]⟩ : ByteArray),2⟩ : S45) )) (Reps.c2 (show Kd.M k45 _ _ _ (⟨(⟨#[99]⟩ : ByteArray),3⟩ : S45) [.string (⟨#[99]⟩ : ByteArray),.int .i64 3] from (k45_mkM _ _ _ (⟨(⟨#[99]⟩ : ByteArray),3⟩ : S45) )) (Reps.none _ _))));intro v227 w83 ho84 hb hg_ hnew_;clear hg_ hnew_;(first|rw [← Ny226.out] at ho84|(simp only [Int.reduceToNat] at ho84;rw [← Ny226.out] at ho84));have n0_ := Aside0.mk (Kd.R_elder' (rM HO155.out) (Kd.R_base ho84) hb);have n1_ := Aside0.mk (Kd.R_below (rM HO158.out) hb);have n2_ := Aside0.mk (Kd.R_elder' (rM HO162.out) (Kd.R_base ho84) hb);have n3_ := Aside0.mk (Kd.R_below (rM HO165.out) hb);have n4_ := Aside0.mk (Kd.R_elder' (rM HO169.out) (Kd.R_base ho84) hb);have n5_ := Aside0.mk (Kd.R_elder' (rM HO172.out) (Kd.R_base ho84) hb);have n6_ := Aside0.mk (Kd.R_elder' (rM HO176.out) (Kd.R_base ho84) hb);have n7_ := Aside0.mk (Kd.R_elder' (rM HO180.out) (Kd.R_base ho84) hb);have n8_ := Aside0.mk (Kd.R_elder' (rM HO184.out) (Kd.R_base ho84) hb);have n9_ := Aside0.mk (Kd.R_below (rM HO187.out) hb);have n10_ := Aside0.mk (Kd.R_below (rM HO190.out) hb);have n11_ := Aside0.mk (Kd.R_below (rM HO194.out) hb);have n12_ := Aside0.mk (Kd.R_below (rM HO197.out) hb);have n13_ := Aside0.mk (Kd.R_elder' (rM HO201.out) (Kd.R_base ho84) hb);have n14_ := Aside0.mk (Kd.R_elder' (rM HO206.out) (Kd.R_base ho84) hb);have n15_ := Aside0.mk (Kd.R_elder' (rM HO209.out) (Kd.R_base ho84) hb);have n16_ := Aside0.mk (Kd.R_elder' (rM HO212.out) (Kd.R_base ho84) hb);have n17_ := Aside0.mk (Kd.R_elder' (rM HO216.out) (Kd.R_base ho84) hb);have n18_ := Aside0.mk (Kd.R_below (rM HO218.out) hb);have n19_ := Aside0.mk (Kd.R_below (rM HO221.out) hb);have n20_ := Aside0.mk (Kd.R_below (rM HO224.out) hb);have n21_ := Aside0.mk (Kd.R_lower (Kd.R_new' (Kd.R_new' (Kd.R_new' (Kd.R_new' (Kd.R_new' (Kd.R_new' (Kd.R_new' (Kd.R_new' (Kd.R_new' (Kd.R_new' (Kd.R_new' (Kd.R_new' ho84 (Kd.R_lt (rM HO155.out))) (Kd.R_lt (rM HO162.out))) (Kd.R_lt (rM HO169.out))) (Kd.R_lt (rM HO172.out))) (Kd.R_lt (rM HO176.out))) (Kd.R_lt (rM HO180.out))) (Kd.R_lt (rM HO184.out))) (Kd.R_lt (rM HO201.out))) (Kd.R_lt (rM HO206.out))) (Kd.R_lt (rM HO209.out))) (Kd.R_lt (rM HO212.out))) (Kd.R_lt (rM HO216.out))) (below_size (bM HB.out)));have n22_ := Aside0.mk (below_step (bM HB.out) hb);clear HO155;clear HO158;clear HO162;clear HO165;clear HO169;clear HO172;clear HO176;clear HO180;clear HO184;clear HO187;clear HO190;clear HO194;clear HO197;clear HO201;clear HO206;clear HO209;clear HO212;clear HO216;clear HO218;clear HO221;clear HO224;clear HB;have HO155 := n0_;have HO158 := n1_;have HO162 := n2_;have HO165 := n3_;have HO169 := n4_;have HO172 := n5_;have HO176 := n6_;have HO180 := n7_;have HO184 := n8_;have HO187 := n9_;have HO190 := n10_;have HO194 := n11_;have HO197 := n12_;have HO201 := n13_;have HO206 := n14_;have HO209 := n15_;have HO212 := n16_;have HO216 := n17_;have HO218 := n18_;have HO221 := n19_;have HO224 := n20_;have HO228 := n21_;have HB := n22_;clear n0_ n1_ n2_ n3_ n4_ n5_ n6_ n7_ n8_ n9_ n10_ n11_ n12_ n13_ n14_ n15_ n16_ n17_ n18_ n19_ n20_ n21_ n22_;clear hb ho84;obtain ⟨Ao85,co85,eo85⟩ := Kd.R_slice HO216.out;subst eo85;obtain ⟨Ao86,co86,eo86⟩ := Kd.R_slice HO228.out;subst eo86)|((with_reducible refine gate_callee (f := 18) rfl ?_);refine goesL_ (some 119) rfl rfl Tryd.func18 (by kernel_rfl) rfl #[.slice Ao85 t213.length co85,.slice Ao86 y226.length co86] rfl (by (try simp only [List.map_toArray,List.map_cons,List.map_nil]);first|done|rfl|(simp only [List.length_drop,List.length_take];rfl)) ?_;(with_reducible refine (codesearchref25_Files.calls k _ _ t213 _ _ y226 true _ ?side1 ?side2 ?side3 ?side4 A26.out).mono ?_);(case side1 => exact cM (Kd.R_reads' HO216.out).2.2);(case side2 => exact (Kd.R_reads' HO216.out).2.1);(case side3 => exact cM (Kd.R_reads' HO228.out).2.2);(case side4 => exact (Kd.R_reads' HO228.out).2.1);rintro e w' ⟨rfl,⟨nd,rfl⟩⟩;refine ⟨_,rfl,?_⟩)|((with_reducible refine gate_dst (N := 122) rfl ?_);(try (refine gate_guard (by rfl) ?_;dsimp only));refine Kd.R_lit Kd.string _ 9 ?hg (N := 122) ?hd (xs := ([(⟨#[97]⟩ : ByteArray)] : List ByteArray)) (inner := [.string (⟨#[97]⟩ : ByteArray)]) (ok := fun _ => True) (okp := fun _ => True) ?hr ?hp (fun _ hk => hk) trivial (Below.refl _ _) (Nat.le_refl _) (by simp) ?_;(case hd => rfl);(case hg => rfl);(case hr => first|(go_simp;done)|(go_simp;rfl));(case hp => exact (Reps.one (show Kd.M Kd.string _ _ _ (⟨#[97]⟩ : ByteArray) [.string (⟨#[97]⟩ : ByteArray)] from rfl) (Reps.none _ _)));intro v231 w87 ho88 hb hg_ hnew_;clear hg_ hnew_;(first|rw [← Ny230.out] at ho88|(simp only [Int.reduceToNat] at ho88;rw [← Ny230.out] at ho88));have n0_ := Aside0.mk (Kd.R_below (rM HO155.out) hb);have n1_ := Aside0.mk (Kd.R_below (rM HO158.out) hb);have n2_ := Aside0.mk (Kd.R_below (rM HO162.out) hb);have n3_ := Aside0.mk (Kd.R_below (rM HO165.out) hb);have n4_ := Aside0.mk (Kd.R_below (rM HO169.out) hb);have n5_ := Aside0.mk (Kd.R_below (rM HO172.out) hb);have n6_ := Aside0.mk (Kd.R_below (rM HO176.out) hb);have n7_ := Aside0.mk (Kd.R_below (rM HO180.out) hb);have n8_ := Aside0.mk (Kd.R_below (rM HO184.out) hb);have n9_ := Aside0.mk (Kd.R_elder' (rM HO187.out) (Kd.R_base ho88) hb);have n10_ := Aside0.mk (Kd.R_elder' (rM HO190.out) (Kd.R_base ho88) hb);have n11_ := Aside0.mk (Kd.R_elder' (rM HO194.out) (Kd.R_base ho88) hb);have n12_ := Aside0.mk (Kd.R_elder' (rM HO197.out) (Kd.R_base ho88) hb);have n13_ := Aside0.mk (Kd.R_below (rM HO201.out) hb);have n14_ := Aside0.mk (Kd.R_below (rM HO206.out) hb);have n15_ := Aside0.mk (Kd.R_below (rM HO209.out) hb);have n16_ := Aside0.mk (Kd.R_below (rM HO212.out) hb);have n17_ := Aside0.mk (Kd.R_below (rM HO216.out) hb);have n18_ := Aside0.mk (Kd.R_elder' (rM HO218.out) (Kd.R_base ho88) hb);have n19_ := Aside0.mk (Kd.R_below (rM HO221.out) hb);have n20_ := Aside0.mk (Kd.R_below (rM HO224.out) hb);have n21_ := Aside0.mk (Kd.R_below (rM HO228.out) hb);have n22_ := Aside0.mk (Kd.R_lower (Kd.R_new' (Kd.R_new' (Kd.R_new' (Kd.R_new' (Kd.R_new' ho88 (Kd.R_lt (rM HO187.out))) (Kd.R_lt (rM HO190.out))) (Kd.R_lt (rM HO194.out))) (Kd.R_lt (rM HO197.out))) (Kd.R_lt (rM HO218.out))) (below_size (bM HB.out)));have n23_ := Aside0.mk (below_step (bM HB.out) hb);clear HO155;clear HO158;clear HO162;clear HO165;clear HO169;clear HO172;clear HO176;clear HO180;clear HO184;clear HO187;clear HO190;clear HO194;clear HO197;clear HO201;clear HO206;clear HO209;clear HO212;clear HO216;clear HO218;clear HO221;clear HO224;clear HO228;clear HB;have HO155 := n0_;have HO158 := n1_;have HO162 := n2_;have HO165 := n3_;have HO169 := n4_;have HO172 := n5_;have HO176 := n6_;have HO180 := n7_;have HO184 := n8_;have HO187 := n9_;have HO190 := n10_;have HO194 := n11_;have HO197 := n12_;have HO201 := n13_;have HO206 := n14_;have HO209 := n15_;have HO212 := n16_;have HO216 := n17_;have HO218 := n18_;have HO221 := n19_;have HO224 := n20_;have HO228 := n21_;have HO232 := n22_;have HB := n23_;clear n0_ n1_ n2_ n3_ n4_ n5_ n6_ n7_ n8_ n9_ n10_ n11_ n12_ n13_ n14_ n15_ n16_ n17_ n18_ n19_ n20_ n21_ n22_ n23_;clear hb ho88;obtain ⟨Ao89,co89,eo89⟩ := Kd.R_slice HO218.out;subst eo89;obtain ⟨Ao90,co90,eo90⟩ := Kd.R_slice HO232.out;subst eo90)|(go_at_call 25;(with_reducible refine (codesearchref01_Strings.calls k _ _ t214 _ _ y230 t233 _ ?side1 ?side2 ?side3 ?side4 A28.out).mono ?_);(case side1 => exact cM (Kd.R_reads' HO218.out).2.2);(case side2 => exact (Kd.R_reads' HO218.out).2.1);(case side3 => exact cM (Kd.R_reads' HO232.out).2.2);(case side4 => exact (Kd.R_reads' HO232.out).2.1);rintro e w' ⟨rfl,⟨nd,rfl⟩⟩))
             go_ret
             exact ⟨by first|rfl|(simp [errW_none,errW_some] <;> rfl)|(simp [*,errW_none,errW_some] <;> rfl),bM HB.out⟩
            ·replace c27 := Bool.eq_false_iff.mpr c27
             subst c27
             have H1 : (none) = some r := by rw [if_neg (show ¬ (false = true) by decide)] at H;exact H
             clear H
             have H := H1
             clear H1
             exact absurd H (by simp)
           ·replace c25 := Bool.eq_false_iff.mpr c25
            subst c25
            have H1 : (none) = some r := by rw [if_neg (show ¬ (false = true) by decide)] at H;exact H
            clear H
            have H := H1
            clear H1
            exact absurd H (by simp)
          ·rw [if_neg c24] at H
           exact absurd H (by simp)
         ·replace c23 := Bool.eq_false_iff.mpr c23
          subst c23
          have H1 : (none) = some r := by rw [if_neg (show ¬ (false = true) by decide)] at H;exact H
          clear H
          have H := H1
          clear H1
          exact absurd H (by simp)
        ·rw [if_neg c18] at H
         exact absurd H (by simp)
       ·replace c16 := Bool.eq_false_iff.mpr c16
        subst c16
        have H1 : (none) = some r := by rw [if_neg (show ¬ (false = true) by decide)] at H;exact H
        clear H
        have H := H1
        clear H1
        exact absurd H (by simp)
      ·replace c13 := Bool.eq_false_iff.mpr c13
       subst c13
       have H1 : (none) = some r := by rw [if_neg (show ¬ (false = true) by decide)] at H;exact H
       clear H
       have H := H1
       clear H1
       exact absurd H (by simp)
     ·rw [if_neg c10] at H
      exact absurd H (by simp)
    ·rw [if_neg c8] at H
     exact absurd H (by simp)
   ·replace c6 := Bool.eq_false_iff.mpr c6
    subst c6
    have H1 : (none) = some r := by rw [if_neg (show ¬ (false = true) by decide)] at H;exact H
    clear H
    have H := H1
    clear H1
    exact absurd H (by simp)
  ·rw [if_neg c4] at H
   exact absurd H (by simp)
 ·rw [if_neg c3] at H
  exact absurd H (by simp)

end Go.Proofs.YtpnhamfodjfacaaDoor.M
