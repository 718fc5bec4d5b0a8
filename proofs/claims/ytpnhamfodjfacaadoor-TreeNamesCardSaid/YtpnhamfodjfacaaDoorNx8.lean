-- Written by hp.py, a program of this session, over the kit's print of the translation. Not trusted: Lean checks it.
import Derived.Test.YtpnhamfodjfacaaDoorNx0
import Derived.Test.YtpnhamfodjfacaaDoorNx6
import Derived.Test.YtpnhamfodjfacaaDoorNx7
namespace Go.Proofs.YtpnhamfodjfacaaDoor.N
open Go.RowKit Go.Proofs.YtpnhamfodjfacaaDoorW.PrintWords Go.Proofs.YtpnhamfodjfacaaDoorW.PrintLast Go.Proofs.YtpnhamfodjfacaaDoorW.PrintMore
attribute [local go_sem] max2_int min2_int max_two min_two max_three min_three max_four min_four   -- for this text's walks alone
set_option linter.unusedVariables false
set_option linter.unusedSimpArgs false

/-! ### tree_Names: function 26 (by hand) -/
/-- What is left of a path behind the directory and its slash; none: the path is too short. -/
def restM (d s : ByteArray) : Option ByteArray := if d.toList = [] then some s else if 0 ≤ wrap64 ((d.size : Int) + 1) ∧ wrap64 ((d.size : Int) + 1) ≤ (s.size : Int) then some (s.extract (wrap64 ((d.size : Int) + 1)).toNat s.size) else none
def namesM (d : ByteArray) : MP → List S45 → Option MP
  | m, [] => some m
  | m, f :: fs => (restM d f.f0).bind fun s => (strings_Cut.f s ⟨#[47]⟩).bind fun r => if okS r.1 = true ∧ okI (wrap64 (valM m r.1 + 1)) = true then namesM d (mput m r.1 (wrap64 (valM m r.1 + 1))) fs else none
def tree_Names.f (k : Nat) (l0 : List S45) (a1 : ByteArray) : Option (List ByteArray) := (tree_Under.f k l0 a1).bind fun u => if u.length ≤ 100000 then (namesM a1 [] u).bind fun m => some (pathsM [m]) else none
theorem tree_Names.mono : ∀ a0 a1 k, LeO (tree_Names.f k a0 a1) (tree_Names.f (k + 1) a0 a1) := by
  intro a0 a1 k
  unfold tree_Names.f
  exact LeO.bind (tree_Under.mono _ _ _) (fun _ => LeO.refl _)
set_option maxHeartbeats 8000000 in
set_option maxRecDepth 100000 in
theorem tree_Names.calls (k : Nat) (A0 : Option Addr) (c0 : Nat) (l0 : List (S45)) (a1 : ByteArray) (r : List ByteArray) (w : World) (hr0 : Kd.C k45 w A0 l0.length l0) (hc0 : l0.length ≤ c0) (h : tree_Names.f k l0 a1 = some r) :
    Calls Tryd.prog 26 #[.slice A0 l0.length c0, .string a1] w fun e w' => ∃ v0_ : Value, e = .returned (v0_) ∧ Kd.R Kd.string 9 w' w.heap.size (fun _ => True) v0_ r ∧ Below w.heap.size w w' := by
  have hu45 := Tryd.underlying45
  unfold tree_Names.f at h
  obtain ⟨us, hus, h⟩ := Option.bind_eq_some_iff.mp h
  split at h
  case isFalse => cases h
  rename_i hlen
  obtain ⟨mm, hmm0, h⟩ := Option.bind_eq_some_iff.mp h
  obtain rfl := Option.some.inj h
  clear h
  have HP := Aside0.mk hlen
  have HN0 := Aside0.mk hmm0
  have HUS := Aside0.mk hus
  have HA := Aside0.mk (And.intro hr0 hc0)
  clear hlen hmm0 hr0 hc0 hus
  have hmm := @run_makeMap Tryd.prog
  go_enter Tryd.func26, Tryd.ntmps26
  go_wp2_with fail
  go_at_call 23
  generalize hwm : w.alloc (.map #[] 0) = wm
  have hsm : wm.heap.size = w.heap.size + 1 := by rw [← hwm]; simp
  have hbm : Below w.heap.size w wm := by rw [← hwm]; exact below_alloc (Below.refl _ _) _
  have hMM : SM Tryd.prog 9 3 wm w.heap.size 0 [] := by rw [← hwm]; exact SM.made w
  clear hwm
  refine (tree_Under.calls k A0 c0 l0 a1 us wm (Kd.C_below HA.out.1 hbm) HA.out.2 HUS.out).mono ?_
  rintro e w5 ⟨v, rfl, hR, hB⟩
  obtain ⟨A, cA, rfl⟩ := Kd.R_slice hR
  have HM := Aside0.mk (hMM.below hB)
  have HB := Aside0.mk (below_then hbm hbm.size hB)
  have HU := Aside0.mk (Kd.R_mono (Kd.R_bound hR) (ok' := fun k => wm.heap.size ≤ k ∧ k < w5.heap.size) (fun k hk => ⟨hk.2.1, hk.2.2.1⟩))
  generalize hbm0 : w.heap.size = bm at HM
  have HBM := Aside0.mk (show w.heap.size ≤ bm ∧ bm < wm.heap.size ∧ wm.heap.size ≤ w5.heap.size from ⟨by omega, by omega, hB.size⟩)
  clear hsm hbm hMM hR hB
  generalize he4 : wm.heap.size = e4 at HU HBM
  generalize he5 : w5.heap.size = e5 at HU HBM
  have HB5 := Aside0.mk (Nat.le_of_eq he5.symm)
  clear he4 he5 hbm0
  go_wp2
  go_loopg [17] us.length (fun kq v17 w' => ∃ (i : Nat) (m : MP), v17 = .int .i64 (i : Int) ∧ Aside0 (i ≤ us.length ∧ us.length - i ≤ kq) ∧ Aside0 (SM Tryd.prog 9 3 w' bm i m) ∧ Aside0 (namesM a1 m (us.drop i) = some mm) ∧ Aside0 (Kd.R k45 45 w' e4 (fun k => e4 ≤ k ∧ k < e5) (.slice A us.length cA) us) ∧ Aside0 (Below w.heap.size w w') ∧ Aside0 (e5 ≤ w'.heap.size))
  case atStart => exact ⟨0, [], rfl, ⟨Nat.zero_le _, by omega⟩, HM, HN0, HU, HB, HB5⟩
  case round =>
    clear HM HU HB HB5
    obtain ⟨i, m, rfl, HK, HM, HNM, HU, HB2, HB5⟩ := hrel
    by_cases hlt : i < us.length
    · cases gk with
      | zero => exfalso; have := HK.out; omega
      | succ k1 =>
        have c1 : decide ((i : Int) < (us.length : Int)) = true := decide_eq_true (by omega)
        obtain ⟨ad, e, hx0, hx1⟩ := at_T45 (Kd.R_reads' HU.out).2.2 (i : Int) (by omega) (by omega)
        subst e
        rw [rd45_nat us i hlt, Int.toNat_natCast] at hx0 hx1
        have p : (0 ≤ (i : Int)) = True := eq_true (by omega)
        have q : ((i : Int) < (us.length : Int)) = True := eq_true (by omega)
        have h1 := HNM.out
        rw [List.drop_eq_getElem_cons hlt, namesM] at h1
        generalize us[i].f0 = s at hx0 hx1 h1
        generalize us[i].f1 = x at hx0 hx1
        obtain ⟨rest, hrest, h1⟩ := Option.bind_eq_some_iff.mp h1
        obtain ⟨⟨n, r2, r3⟩, hcut, h1⟩ := Option.bind_eq_some_iff.mp h1
        obtain ⟨j2, hj2⟩ : ∃ j_ : Int, wrap64 (valM m n + 1) = j_ := ⟨_, rfl⟩
        simp only [hj2] at h1
        split at h1
        case isFalse => cases h1
        rename_i hn
        have hj2w : (IntKind.i64.wrap (valM m n + 1)) = j2 := (i64_w _).trans hj2
        have HN := Aside0.mk hn
        have HNX := Aside0.mk h1
        have HC := Aside0.mk hcut
        clear hn h1 hcut HNM
        unfold restM at hrest
        by_cases hd : a1.toList = []
        · rw [if_pos hd] at hrest
          obtain rfl := Option.some.inj hrest
          clear hrest
          have g0 : (a1.toList == []) = true := beq_iff_eq.mpr hd
          have g1 : (a1.toList != []) = false := bne_eq_false_iff_eq.mpr hd
          go_wp2_with (first
            | ((with_reducible refine gate_dst (N := 7) rfl ?_); refine box_event ?hg (N := 7) ?hd (cs := #[.string (⟨#[]⟩ : ByteArray), .int .i64 0]) (t := 45) ?hr ?_; (case hd => rfl); (case hg => rfl); (case hr => first | (go_simp; done) | (go_simp; rfl)); intro gb hg w9 hbox hb
               have n0_ := Aside0.mk (HM.out.below hb); have n1_ := Aside0.mk (below_step HB2.out hb); have n2_ := Aside0.mk (Kd.R_below HU.out hb); have n3_ := Aside0.mk (by rw [hg]; exact HB5.out : e5 ≤ gb)
               have n4_ := Aside0.mk (Nat.le_trans HB5.out hb.size)
               have hcz0 : w9.cell? ⟨gb, 0, none⟩ = some (.string (⟨#[]⟩ : ByteArray)) := (blk_cell hbox 0).trans rfl
               have hcz1 : w9.cell? ⟨gb, 1, none⟩ = some (.int .i64 0) := (blk_cell hbox 1).trans rfl
               have hfz0 := blk_frozen hbox 0
               have hfz1 := blk_frozen hbox 1
               clear HM HB2 HU hb hbox hg HB5
               have HM := n0_; have HB2 := n1_; have HU := n2_; have GG := n3_; have HB5 := n4_; clear n0_ n1_ n2_ n3_ n4_))
          go_at_call 42
          have hW1 := ((HM.out.far (a := ⟨gb, 0, none⟩) (by have := GG.out; have := HBM.out; show bm ≠ gb; omega) (.string s)).far (a := ⟨gb, 1, none⟩) (by have := GG.out; have := HBM.out; show bm ≠ gb; omega) (.int .i64 x))
          have hW2 := (HB2.out.setCell (p := ⟨gb, 0, none⟩) (by have := GG.out; have := HBM.out; show w.heap.size ≤ gb; omega) (.string s)).setCell (p := ⟨gb, 1, none⟩) (by have := GG.out; have := HBM.out; show w.heap.size ≤ gb; omega) (.int .i64 x)
          have hW3 := Kd.R_far (Kd.R_far HU.out (p := ⟨gb, 0, none⟩) (fun k hk => by have := GG.out; show k ≠ gb; omega) (.string s)) (p := ⟨gb, 1, none⟩) (fun k hk => by have := GG.out; show k ≠ gb; omega) (.int .i64 x)
          have hW5 := (show e5 ≤ ((w9.setCell ⟨gb, 0, none⟩ (.string s)).setCell ⟨gb, 1, none⟩ (.int .i64 x)).heap.size from by have := HB5.out; simpa [World.setCell] using this)
          have hcut := Aside0.mk (strings_Cut.calls s ⟨#[47]⟩ n r2 r3 ((w9.setCell ⟨gb, 0, none⟩ (.string s)).setCell ⟨gb, 1, none⟩ (.int .i64 x)) HC.out)
          generalize (w9.setCell ⟨gb, 0, none⟩ (.string s)).setCell ⟨gb, 1, none⟩ (.int .i64 x) = w10 at hW1 hW2 hW3 hW5 hcut ⊢
          refine hcut.out.mono ?_
          rintro e w11 ⟨rfl, hd⟩
          have hb := hd.below
          have n0_ := Aside0.mk (hW1.below hb); have n1_ := Aside0.mk (below_then hW2 hW2.size hb); have n2_ := Aside0.mk (Kd.R_below hW3 hb); have n3_ := Aside0.mk (Nat.le_trans hW5 hb.size)
          clear HM HB2 HU HB5 hW1 hW2 hW3 hW5 hd hb hcut GG
          have HM := n0_; have HB2 := n1_; have HU := n2_; have HB5 := n3_; clear n0_ n1_ n2_ n3_
          go_wp2_with (first
            | (at_lookup; obtain ⟨D, hD, hRp⟩ := HM.out; refine wpList_lookup_own_int _ rfl _ _ 51 rfl 9 3 .i64 law9 Tryd.underlying51 Tryd.underlying3 (zero3 _) bm i D rfl hD _ _ rfl (key_ok HN.out.1) ?_; intro c hat hwc; obtain rfl := SM.look hRp hat; clear hat hwc hD hRp)
            | (at_mapUpdate
               obtain ⟨D, hD, hRp⟩ := HM.out
               refine wpList_mapUpdate_own _ rfl _ _ _ 51 rfl 9 3 law9 Tryd.underlying51 _ bm i D rfl hD (by have := HK.out; have := HP.out; unfold maxLen; omega) _ _ _ rfl rfl (key_ok HN.out.1) _ [] (val_ok HN.out.2) ?_
               intro w12 hown12 hgrow12
               have n0_ := Aside0.mk (show SM Tryd.prog 9 3 w12 bm (i + 1) (mput m n j2) from ⟨_, hown12, hRp.put hD.isMap n j2⟩)
               have n1_ := Aside0.mk (HB2.out.grown hgrow12 HB2.out.size (fun k hk => by cases hk; exact HBM.out.1))
               have n2_ := Aside0.mk (Kd.R_grown HU.out hgrow12 (fun k hk e => by injection e with e; have := HBM.out; omega))
               have n3_ := Aside0.mk (Nat.le_trans HB5.out hgrow12.size)
               clear HM HB2 HU HB5 hD hRp hown12 hgrow12
               have HM := n0_; have HB2 := n1_; have HU := n2_; have HB5 := n3_; clear n0_ n1_ n2_ n3_))
          go_roundg k1
          case measure => omega
          case rel => exact ⟨i + 1, mput m n j2, by rw [w_inc_ i (by have := HP.out; omega)], ⟨by omega, by have := HK.out; omega⟩, HM, HNX, HU, HB2, HB5⟩
        · rw [if_neg hd] at hrest
          have g0 : (a1.toList == []) = false := beq_eq_false_iff_ne.mpr hd
          have g1 : (a1.toList != []) = true := bne_iff_ne.mpr hd
          obtain ⟨j1, hj1⟩ : ∃ j_ : Int, wrap64 ((a1.size : Int) + 1) = j_ := ⟨_, rfl⟩
          have hj1w : (IntKind.i64.wrap ((a1.size : Int) + 1)) = j1 := (i64_w _).trans hj1
          simp only [hj1] at hrest
          split at hrest
          case isFalse => cases hrest
          rename_i hjj
          obtain rfl := Option.some.inj hrest
          clear hrest
          have g2 := eq_true hjj.1
          have g3 := eq_true hjj.2
          have g4 : decide (0 ≤ j1) = true := decide_eq_true hjj.1
          have g5 : decide (j1 ≤ (s.size : Int)) = true := decide_eq_true hjj.2
          clear hjj
          go_wp2_with (first
            | ((with_reducible refine gate_dst (N := 7) rfl ?_); refine box_event ?hg (N := 7) ?hd (cs := #[.string (⟨#[]⟩ : ByteArray), .int .i64 0]) (t := 45) ?hr ?_; (case hd => rfl); (case hg => rfl); (case hr => first | (go_simp; done) | (go_simp; rfl)); intro gb hg w9 hbox hb
               have n0_ := Aside0.mk (HM.out.below hb); have n1_ := Aside0.mk (below_step HB2.out hb); have n2_ := Aside0.mk (Kd.R_below HU.out hb); have n3_ := Aside0.mk (by rw [hg]; exact HB5.out : e5 ≤ gb)
               have n4_ := Aside0.mk (Nat.le_trans HB5.out hb.size)
               have hcz0 : w9.cell? ⟨gb, 0, none⟩ = some (.string (⟨#[]⟩ : ByteArray)) := (blk_cell hbox 0).trans rfl
               have hcz1 : w9.cell? ⟨gb, 1, none⟩ = some (.int .i64 0) := (blk_cell hbox 1).trans rfl
               have hfz0 := blk_frozen hbox 0
               have hfz1 := blk_frozen hbox 1
               clear HM HB2 HU hb hbox hg HB5
               have HM := n0_; have HB2 := n1_; have HU := n2_; have GG := n3_; have HB5 := n4_; clear n0_ n1_ n2_ n3_ n4_))
          go_at_call 42
          have hW1 := ((HM.out.far (a := ⟨gb, 0, none⟩) (by have := GG.out; have := HBM.out; show bm ≠ gb; omega) (.string s)).far (a := ⟨gb, 1, none⟩) (by have := GG.out; have := HBM.out; show bm ≠ gb; omega) (.int .i64 x))
          have hW2 := (HB2.out.setCell (p := ⟨gb, 0, none⟩) (by have := GG.out; have := HBM.out; show w.heap.size ≤ gb; omega) (.string s)).setCell (p := ⟨gb, 1, none⟩) (by have := GG.out; have := HBM.out; show w.heap.size ≤ gb; omega) (.int .i64 x)
          have hW3 := Kd.R_far (Kd.R_far HU.out (p := ⟨gb, 0, none⟩) (fun k hk => by have := GG.out; show k ≠ gb; omega) (.string s)) (p := ⟨gb, 1, none⟩) (fun k hk => by have := GG.out; show k ≠ gb; omega) (.int .i64 x)
          have hW5 := (show e5 ≤ ((w9.setCell ⟨gb, 0, none⟩ (.string s)).setCell ⟨gb, 1, none⟩ (.int .i64 x)).heap.size from by have := HB5.out; simpa [World.setCell] using this)
          have hcut := Aside0.mk (strings_Cut.calls (s.extract j1.toNat s.size) ⟨#[47]⟩ n r2 r3 ((w9.setCell ⟨gb, 0, none⟩ (.string s)).setCell ⟨gb, 1, none⟩ (.int .i64 x)) HC.out)
          generalize (w9.setCell ⟨gb, 0, none⟩ (.string s)).setCell ⟨gb, 1, none⟩ (.int .i64 x) = w10 at hW1 hW2 hW3 hW5 hcut ⊢
          refine hcut.out.mono ?_
          rintro e w11 ⟨rfl, hd⟩
          have hb := hd.below
          have n0_ := Aside0.mk (hW1.below hb); have n1_ := Aside0.mk (below_then hW2 hW2.size hb); have n2_ := Aside0.mk (Kd.R_below hW3 hb); have n3_ := Aside0.mk (Nat.le_trans hW5 hb.size)
          clear HM HB2 HU HB5 hW1 hW2 hW3 hW5 hd hb hcut GG
          have HM := n0_; have HB2 := n1_; have HU := n2_; have HB5 := n3_; clear n0_ n1_ n2_ n3_
          go_wp2_with (first
            | (at_lookup; obtain ⟨D, hD, hRp⟩ := HM.out; refine wpList_lookup_own_int _ rfl _ _ 51 rfl 9 3 .i64 law9 Tryd.underlying51 Tryd.underlying3 (zero3 _) bm i D rfl hD _ _ rfl (key_ok HN.out.1) ?_; intro c hat hwc; obtain rfl := SM.look hRp hat; clear hat hwc hD hRp)
            | (at_mapUpdate
               obtain ⟨D, hD, hRp⟩ := HM.out
               refine wpList_mapUpdate_own _ rfl _ _ _ 51 rfl 9 3 law9 Tryd.underlying51 _ bm i D rfl hD (by have := HK.out; have := HP.out; unfold maxLen; omega) _ _ _ rfl rfl (key_ok HN.out.1) _ [] (val_ok HN.out.2) ?_
               intro w12 hown12 hgrow12
               have n0_ := Aside0.mk (show SM Tryd.prog 9 3 w12 bm (i + 1) (mput m n j2) from ⟨_, hown12, hRp.put hD.isMap n j2⟩)
               have n1_ := Aside0.mk (HB2.out.grown hgrow12 HB2.out.size (fun k hk => by cases hk; exact HBM.out.1))
               have n2_ := Aside0.mk (Kd.R_grown HU.out hgrow12 (fun k hk e => by injection e with e; have := HBM.out; omega))
               have n3_ := Aside0.mk (Nat.le_trans HB5.out hgrow12.size)
               clear HM HB2 HU HB5 hD hRp hown12 hgrow12
               have HM := n0_; have HB2 := n1_; have HU := n2_; have HB5 := n3_; clear n0_ n1_ n2_ n3_))
          go_roundg k1
          case measure => omega
          case rel => exact ⟨i + 1, mput m n j2, by rw [w_inc_ i (by have := HP.out; omega)], ⟨by omega, by have := HK.out; omega⟩, HM, HNX, HU, HB2, HB5⟩
    · have hi : i = us.length := by have := HK.out; omega
      have c1 : decide ((i : Int) < (us.length : Int)) = false := decide_eq_false (by omega)
      have h1 := HNM.out
      rw [List.drop_of_length_le (by omega), namesM] at h1
      obtain rfl := Option.some.inj h1
      clear h1 HNM HU
      go_wp2_with fail
      go_at_call 40
      generalize hw1 : wr.alloc _ = w1
      have hs1 : w1.heap.size = wr.heap.size + 1 := by rw [← hw1]; simp
      have hb1 : Below wr.heap.size wr w1 := by rw [← hw1]; exact below_alloc (Below.refl _ _) _
      have hat : MapsAt w1 wr.heap.size [(bm, m)] := by
        intro j hj
        have hj0 : j = 0 := by simpa using hj
        subst hj0
        exact ⟨by rw [← hw1]; simp, (HM.out.mono (by have := HP.out; omega)).below hb1⟩
      refine (tree_paths.calls_ wr.heap.size 1 [(bm, m)] w1 (by omega) hat (by simp)).mono ?_
      rintro e w2 ⟨v, rfl, hR, hB⟩
      clear hw1 hat
      have hB2 := below_then hb1 hb1.size hB
      have hR2 := Kd.R_lower hR (show w.heap.size ≤ w1.heap.size by have := HB2.out.size; omega)
      simp only [List.map_cons, List.map_nil] at hR2
      have HR2 := Aside0.mk hR2
      have HB3 := Aside0.mk (below_then HB2.out HB2.out.size hB2)
      clear hs1 hb1 hR hB hB2 hR2 HB2
      go_wp2
      go_ret
      exact ⟨_, rfl, HR2.out, HB3.out⟩

/-! ### tree_Merge: function 28 (by hand) -/
theorem Rep.congr {D : DataW Unit} {m m' : MP} (h : Rep D m) (he : ∀ s, mget m s = mget m' s) : Rep D m' := fun s => by rw [← he s]; exact h s
theorem SM.congr {P : Program} {ks es : TypeId} {w : World} {b n : Nat} {m m' : MP} (h : SM P ks es w b n m) (he : ∀ s, mget m s = mget m' s) : SM P ks es w b n m' := let ⟨D, h1, h2⟩ := h; ⟨D, h1, h2.congr he⟩
def pickM (x y z : MP) (s : ByteArray) : Int := if valM y s = valM x s then valM z s else valM y s
def mergedM (x y z : MP) (ks : List ByteArray) : MP := (ks.map fun s => (s, pickM x y z s)).reverse
def clashM (x y z : MP) (s : ByteArray) : Bool := decide (valM x s ≠ valM y s) && (decide (valM x s ≠ valM z s) && decide (valM y s ≠ valM z s))
theorem merged_snoc (x y z : MP) (ks : List ByteArray) (i : Nat) (h : i < ks.length) : mergedM x y z (ks.take (i + 1)) = mput (mergedM x y z (ks.take i)) ks[i] (pickM x y z ks[i]) := by
  rw [List.take_succ_eq_append_getElem h, mergedM, List.map_append, List.reverse_append]; rfl
theorem clash_snoc (x y z : MP) (ks : List ByteArray) (i : Nat) (h : i < ks.length) : (ks.take (i + 1)).filter (clashM x y z) = (ks.take i).filter (clashM x y z) ++ (if clashM x y z ks[i] = true then [ks[i]] else []) := by
  rw [List.take_succ_eq_append_getElem h, List.filter_append]
  congr 1
  by_cases hz : clashM x y z ks[i] = true
  · rw [if_pos hz, List.filter_cons_of_pos hz]; rfl
  · rw [if_neg hz, List.filter_cons_of_neg hz]; rfl
theorem okI_conts {l : List S45} (h : okFs l = true) (s : ByteArray) : okI (valM (contsM l) s) = true := by
  have key : ∀ (l : List S45) (m : MP), okFs l = true → okI (valM m s) = true → okI (valM (l.foldl (fun m x => mput m x.f0 x.f1) m) s) = true := by
    intro l
    induction l with
    | nil => intro m _ h2; exact h2
    | cons a l ih =>
      intro m h1 h2
      rw [okFs, List.all_cons, Bool.and_eq_true, Bool.and_eq_true] at h1
      rw [List.foldl_cons]
      refine ih _ h1.2 ?_
      unfold valM
      rw [mget_put]
      by_cases e : a.f0 = s
      · rw [if_pos e]; exact h1.1.2
      · rw [if_neg e]; exact h2
  exact key l [] h (show okI 0 = true by decide)
theorem mget_merged (x y z : MP) (ks : List ByteArray) (s : ByteArray) (h : (mget (mergedM x y z ks) s).isSome = true) : s ∈ ks := by
  rw [mget_mem, mergedM, List.map_reverse, List.mem_reverse, List.map_map] at h
  obtain ⟨t, ht, rfl⟩ := List.mem_map.1 h
  exact ht
/-- All keys of a map are fit (for Merge). -/
def okM_ (m : MP) : Prop := ∀ s, (mget m s).isSome = true → okS s = true
theorem okM_paths {m : MP} (h : okM_ m) : (pathsM [m]).all okS = true := by
  rw [List.all_eq_true]
  intro s hs
  obtain ⟨m', hm, h2⟩ := (mem_pathsM _ s).1 hs
  rw [List.mem_singleton] at hm
  subst hm
  exact h s h2
def tree_Merge.f (l0 l1 l2 : List S45) : Option (List S45 × List ByteArray) := if okFs l0 = true ∧ okFs l1 = true ∧ okFs l2 = true ∧ l0.length ≤ 100000 ∧ l1.length ≤ 100000 ∧ l2.length ≤ 100000 then some (filesM (mergedM (contsM l0) (contsM l1) (contsM l2) (pathsM [contsM l0, contsM l1, contsM l2])), (pathsM [contsM l0, contsM l1, contsM l2]).filter (clashM (contsM l0) (contsM l1) (contsM l2))) else none
set_option maxHeartbeats 8000000 in
set_option maxRecDepth 100000 in
theorem tree_Merge.calls (A0 : Option Addr) (c0 : Nat) (l0 : List (S45)) (A1 : Option Addr) (c1 : Nat) (l1 : List (S45)) (A2 : Option Addr) (c2 : Nat) (l2 : List (S45)) (r1 : List (S45)) (r2 : List ByteArray) (w : World) (hr0 : Kd.C k45 w A0 l0.length l0) (hc0 : l0.length ≤ c0) (hr1 : Kd.C k45 w A1 l1.length l1) (hc1 : l1.length ≤ c1) (hr2 : Kd.C k45 w A2 l2.length l2) (hc2 : l2.length ≤ c2) (h : tree_Merge.f l0 l1 l2 = some (r1, r2)) :
    Calls Tryd.prog 28 #[.slice A0 l0.length c0, .slice A1 l1.length c1, .slice A2 l2.length c2] w fun e w' => ∃ v0_ v1_ : Value, e = .returned (.tuple #[v0_, v1_]) ∧ Kd.R k45 45 w' w.heap.size (fun _ => True) v0_ r1 ∧ Kd.R Kd.string 9 w' w.heap.size (fun _ => True) v1_ r2 ∧ Below w.heap.size w w' := by
  unfold tree_Merge.f at h
  split at h
  case isFalse => cases h
  rename_i hh
  obtain ⟨rfl, rfl⟩ := Prod.mk.inj (Option.some.inj h)
  have info9 : (Tryd.prog.info? 9).map (fun i => (i.zero, i.size, i.bytes)) = some (some (.string ⟨#[]⟩), 1, 16) := by kernel_rfl
  have HI := Aside0.mk info9
  have HH := Aside0.mk hh
  have hca := Aside0.mk (tree_contents.calls_ A0 c0 l0 w hr0 hc0 hh.1 (by omega))
  have HR1 := Aside0.mk (And.intro hr1 hc1)
  have HR2 := Aside0.mk (And.intro hr2 hc2)
  clear h hh hr0 hc0 hr1 hc1 hr2 hc2 info9
  have hmm := @run_makeMap Tryd.prog
  go_enter Tryd.func28, Tryd.ntmps28
  go_wp2_with fail
  go_at_call 36
  refine hca.out.mono ?_
  rintro e w1 ⟨b1, rfl, hb1, hm1, hB1⟩
  have hcb := Aside0.mk (tree_contents.calls_ A1 c1 l1 w1 (Kd.C_below HR1.out.1 hB1) HR1.out.2 HH.out.2.1 (by have := HH.out; omega))
  have HM1 := Aside0.mk (hm1.mono (n' := 1000000) (by have := HH.out; omega))
  have HB1 := Aside0.mk hB1
  clear hca hm1 hB1
  go_wp2_with fail
  go_at_call 36
  refine hcb.out.mono ?_
  rintro e w2 ⟨b2, rfl, hb2, hm2, hB2⟩
  have HMx := Aside0.mk (HM1.out.below hB2)
  have HMy := Aside0.mk (hm2.mono (n' := 1000000) (by have := HH.out; omega))
  have HB2 := Aside0.mk (below_then HB1.out HB1.out.size hB2)
  have hcc := Aside0.mk (tree_contents.calls_ A2 c2 l2 w2 (Kd.C_below HR2.out.1 HB2.out) HR2.out.2 HH.out.2.2.1 (by have := HH.out; omega))
  clear hcb hm2 hB2 HM1 HB1 hb1 hb2
  go_wp2_with fail
  go_at_call 36
  refine hcc.out.mono ?_
  rintro e w3 ⟨b3, rfl, hb3, hm3, hB3⟩
  have hMX := HMx.out.below hB3
  have hMY := HMy.out.below hB3
  have hMZ := hm3.mono (n' := 1000000) (by have := HH.out; omega)
  have HB3 := Aside0.mk (below_then HB2.out HB2.out.size hB3)
  have HM3 := Aside0.mk (And.intro hMX (And.intro hMY hMZ))
  clear hcc hm3 hB3 hb3 HMx HMy HB2 hMX hMY hMZ
  go_wp2_with fail
  go_at_call 40
  generalize hwm : w3.alloc (.map #[] 0) = wm
  have hsm : wm.heap.size = w3.heap.size + 1 := by rw [← hwm]; simp
  have hbm : Below w3.heap.size w3 wm := by rw [← hwm]; exact below_alloc (Below.refl _ _) _
  have hMM : SM Tryd.prog 9 3 wm w3.heap.size 0 [] := by rw [← hwm]; exact SM.made w3
  clear hwm
  generalize hw4 : wm.alloc _ = w4
  have hs4 : w4.heap.size = wm.heap.size + 1 := by rw [← hw4]; simp
  have hb4 : Below wm.heap.size wm w4 := by rw [← hw4]; exact below_alloc (Below.refl _ _) _
  have hat : MapsAt w4 (w3.heap.size + 1) [(b1, contsM l0), (b2, contsM l1), (b3, contsM l2)] := by
    intro j hj
    have hj0 : j = 0 ∨ j = 1 ∨ j = 2 := by simp at hj; omega
    rcases hj0 with rfl | rfl | rfl
    · exact ⟨by rw [← hw4, ← hsm]; simp, (HM3.out.1.below hbm).below hb4⟩
    · exact ⟨by rw [← hw4, ← hsm]; simp, (HM3.out.2.1.below hbm).below hb4⟩
    · exact ⟨by rw [← hw4, ← hsm]; simp, (HM3.out.2.2.below hbm).below hb4⟩
  rw [← hsm] at hat ⊢
  refine (tree_paths.calls_ wm.heap.size 3 [(b1, contsM l0), (b2, contsM l1), (b3, contsM l2)] w4 (by omega) hat (by simp)).mono ?_
  rintro e w5 ⟨v, rfl, hR, hB⟩
  clear hw4 hat
  have hBm5 := below_then hb4 hb4.size hB
  have hB35 := below_then hbm hbm.size hBm5
  obtain ⟨A, cA, rfl⟩ := Kd.R_slice hR
  simp only [List.map_cons, List.map_nil] at hR ⊢
  have hpl := pathsM_len [contsM l0, contsM l1, contsM l2] 100000 (by intro m hm; simp at hm; rcases hm with rfl | rfl | rfl <;> rw [contsM_len] <;> have := HH.out <;> omega)
  have hok : (pathsM [contsM l0, contsM l1, contsM l2]).all okS = true := okS_paths (ls := [l0, l1, l2]) (by intro l hl; simp at hl; rcases hl with rfl | rfl | rfl; exact HH.out.1; exact HH.out.2.1; exact HH.out.2.2.1)
  have HKS0 := Aside0.mk hok
  have HX := Aside0.mk (HM3.out.1.below hB35)
  have HY := Aside0.mk (HM3.out.2.1.below hB35)
  have HZ := Aside0.mk (HM3.out.2.2.below hB35)
  have HM := Aside0.mk (hMM.below hBm5)
  have HB := Aside0.mk (below_then HB3.out HB3.out.size hB35)
  have HKR := Aside0.mk (Kd.R_mono (Kd.R_bound hR) (ok' := fun k => w4.heap.size ≤ k ∧ k < w5.heap.size) (fun k hk => ⟨hk.2.1, hk.2.2.1⟩))
  have HBM := Aside0.mk (show w.heap.size ≤ w3.heap.size ∧ b1 < w3.heap.size ∧ b2 < w3.heap.size ∧ b3 < w3.heap.size ∧ w3.heap.size < w4.heap.size ∧ w4.heap.size ≤ w5.heap.size from ⟨HB3.out.size, HM3.out.1.lt, HM3.out.2.1.lt, HM3.out.2.2.lt, by omega, hB.size⟩)
  have hnl : (pathsM [contsM l0, contsM l1, contsM l2]).length ≤ 300000 := by simpa using hpl
  have HP := Aside0.mk hnl
  clear hs4 hsm hbm hb4 hR hB hBm5 hB35 hpl hnl hok HM3 HB3 hMM
  generalize hks : pathsM [contsM l0, contsM l1, contsM l2] = ks at HKR HKS0 HP
  have HKS := Aside0.mk hks
  clear hks
  have HVX := Aside0.mk (And.intro (fun s => okI_conts HH.out.1 s) (And.intro (fun s => okI_conts HH.out.2.1 s) (fun s => okI_conts HH.out.2.2.1 s)))
  generalize hx0 : contsM l0 = x at HX HKS HVX
  generalize hy0 : contsM l1 = y at HY HKS HVX
  generalize hz0 : contsM l2 = z at HZ HKS HVX
  have HXY := Aside0.mk (And.intro hx0 (And.intro hy0 hz0))
  clear hx0 hy0 hz0
  obtain ⟨HL1, HL2, _⟩ := Kd.R_reads' HKR.out
  have HLN := Aside0.mk HL1
  clear HL1 HL2
  generalize hbm0 : w3.heap.size = bm at HM HBM ⊢
  generalize he4 : w4.heap.size = e4 at HKR HBM
  generalize he5 : w5.heap.size = e5 at HKR HBM
  have HB5 := Aside0.mk (Nat.le_of_eq he5.symm)
  clear hbm0 he4
  go_wp2
  go_loopg [12, 28] ks.length (fun kq v12 v28 w' => ∃ (i : Nat), v28 = .int .i64 (i : Int) ∧ Aside0 (i ≤ ks.length ∧ ks.length - i ≤ kq) ∧ Aside0 (SM Tryd.prog 9 3 w' bm (2 * i) (mergedM x y z (ks.take i))) ∧ Aside0 (SM Tryd.prog 9 3 w' b1 1000000 x) ∧ Aside0 (SM Tryd.prog 9 3 w' b2 1000000 y) ∧ Aside0 (SM Tryd.prog 9 3 w' b3 1000000 z) ∧ Aside0 (Kd.R Kd.string 9 w' e4 (fun k => e4 ≤ k ∧ k < e5) (.slice A ks.length cA) ks) ∧ Aside0 (Kd.R Kd.string 9 w' w.heap.size (fun k => e5 ≤ k) v12 ((ks.take i).filter (clashM x y z))) ∧ Aside0 (Below w.heap.size w w') ∧ Aside0 (e5 ≤ w'.heap.size))
  case atStart => exact ⟨0, rfl, ⟨Nat.zero_le _, by omega⟩, HM, HX, HY, HZ, HKR, ⟨Kd.R_nil _ _ _ _ _⟩, HB, HB5⟩
  case round =>
    clear HX HY HZ HM HKR HB HB5 he5
    obtain ⟨i, rfl, HK, HM, HX, HY, HZ, HKR, HO, HB2, HB5⟩ := hrel
    by_cases hlt : i < ks.length
    · cases gk with
      | zero => exfalso; have := HK.out; omega
      | succ k1 =>
        have c1 : decide ((i : Int) < (ks.length : Int)) = true := decide_eq_true (by omega)
        obtain ⟨ad, e, hx⟩ := at9 (Kd.R_reads' HKR.out).2.2 i hlt rfl
        subst e
        have p : (0 ≤ (i : Int)) = True := eq_true (by omega)
        have q : ((i : Int) < (ks.length : Int)) = True := eq_true (by omega)
        have HS := Aside0.mk (show okS ks[i] = true from List.all_eq_true.1 HKS0.out _ (List.getElem_mem _))
        have HF := Aside0.mk (clash_snoc x y z ks i hlt)
        have HG := Aside0.mk (merged_snoc x y z ks i hlt)
        generalize ks[i] = s at hx HS HF HG
        have HV := Aside0.mk (And.intro (HVX.out.1 s) (And.intro (HVX.out.2.1 s) (HVX.out.2.2 s)))
        by_cases hyx : valM y s = valM x s
        · skip
          have g1 : (valM y s == valM x s) = true := by simpa using hyx
          have g2 : (valM x s != valM y s) = false := by simpa using hyx.symm
          go_wp2_with (first
            | (at_lookup; (try (refine gate_guard (by rfl) ?_; dsimp only)); obtain ⟨D, hD, hRp⟩ := HX.out; refine wpList_lookup_own_int _ rfl _ _ 51 rfl 9 3 .i64 law9 Tryd.underlying51 Tryd.underlying3 (zero3 _) b1 1000000 D rfl hD _ _ rfl (key_ok HS.out) ?_; intro c hat hwc; obtain rfl := SM.look hRp hat; clear hat hwc hD hRp)
            | (at_lookup; (try (refine gate_guard (by rfl) ?_; dsimp only)); obtain ⟨D, hD, hRp⟩ := HY.out; refine wpList_lookup_own_int _ rfl _ _ 51 rfl 9 3 .i64 law9 Tryd.underlying51 Tryd.underlying3 (zero3 _) b2 1000000 D rfl hD _ _ rfl (key_ok HS.out) ?_; intro c hat hwc; obtain rfl := SM.look hRp hat; clear hat hwc hD hRp)
            | (at_lookup; (try (refine gate_guard (by rfl) ?_; dsimp only)); obtain ⟨D, hD, hRp⟩ := HZ.out; refine wpList_lookup_own_int _ rfl _ _ 51 rfl 9 3 .i64 law9 Tryd.underlying51 Tryd.underlying3 (zero3 _) b3 1000000 D rfl hD _ _ rfl (key_ok HS.out) ?_; intro c hat hwc; obtain rfl := SM.look hRp hat; clear hat hwc hD hRp)
            | (at_mapUpdate
               obtain ⟨D, hD, hRp⟩ := HM.out
               refine wpList_mapUpdate_own _ rfl _ _ _ 51 rfl 9 3 law9 Tryd.underlying51 _ bm (2 * i) D rfl hD (by have := HK.out; have := HP.out; unfold maxLen; omega) _ _ _ rfl rfl (key_ok HS.out) _ [] (val_ok HV.out.2.1) ?_
               intro w9 hown9 hgrow9
               have n0_ := Aside0.mk (show SM Tryd.prog 9 3 w9 bm (2 * i + 1) (mput (mergedM x y z (ks.take i)) s (valM y s)) from ⟨_, hown9, hRp.put hD.isMap s _⟩)
               have n1_ := Aside0.mk (HB2.out.grown hgrow9 HB2.out.size (fun k hk => by cases hk; exact HBM.out.1))
               have n2_ := Aside0.mk (HX.out.grown hgrow9 (by intro e; injection e with e; have := HBM.out; omega))
               have n3_ := Aside0.mk (HY.out.grown hgrow9 (by intro e; injection e with e; have := HBM.out; omega))
               have n4_ := Aside0.mk (HZ.out.grown hgrow9 (by intro e; injection e with e; have := HBM.out; omega))
               have n5_ := Aside0.mk (Kd.R_grown HKR.out hgrow9 (fun k hk e => by injection e with e; have := HBM.out; omega))
               have n6_ := Aside0.mk (Kd.R_grown HO.out hgrow9 (fun k hk e => by injection e with e; have := HBM.out; omega))
               have n7_ := Aside0.mk (Nat.le_trans HB5.out hgrow9.size)
               clear HM HB2 HX HY HZ HKR HO hD hRp hown9 hgrow9 HB5
               have HM := n0_; have HB2 := n1_; have HX := n2_; have HY := n3_; have HZ := n4_; have HKR := n5_; have HO := n6_; have HB5 := n7_; clear n0_ n1_ n2_ n3_ n4_ n5_ n6_ n7_)
            | (at_mapUpdate
               obtain ⟨D, hD, hRp⟩ := HM.out
               refine wpList_mapUpdate_own _ rfl _ _ _ 51 rfl 9 3 law9 Tryd.underlying51 _ bm (2 * i + 1) D rfl hD (by have := HK.out; have := HP.out; unfold maxLen; omega) _ _ _ rfl rfl (key_ok HS.out) _ [] (val_ok HV.out.2.2) ?_
               intro w9 hown9 hgrow9
               have n0_ := Aside0.mk (show SM Tryd.prog 9 3 w9 bm (2 * i + 1 + 1) (mput (mput (mergedM x y z (ks.take i)) s (valM y s)) s (valM z s)) from ⟨_, hown9, hRp.put hD.isMap s _⟩)
               have n1_ := Aside0.mk (HB2.out.grown hgrow9 HB2.out.size (fun k hk => by cases hk; exact HBM.out.1))
               have n2_ := Aside0.mk (HX.out.grown hgrow9 (by intro e; injection e with e; have := HBM.out; omega))
               have n3_ := Aside0.mk (HY.out.grown hgrow9 (by intro e; injection e with e; have := HBM.out; omega))
               have n4_ := Aside0.mk (HZ.out.grown hgrow9 (by intro e; injection e with e; have := HBM.out; omega))
               have n5_ := Aside0.mk (Kd.R_grown HKR.out hgrow9 (fun k hk e => by injection e with e; have := HBM.out; omega))
               have n6_ := Aside0.mk (Kd.R_grown HO.out hgrow9 (fun k hk e => by injection e with e; have := HBM.out; omega))
               have n7_ := Aside0.mk (Nat.le_trans HB5.out hgrow9.size)
               clear HM HB2 HX HY HZ HKR HO hD hRp hown9 hgrow9 HB5
               have HM := n0_; have HB2 := n1_; have HX := n2_; have HY := n3_; have HZ := n4_; have HKR := n5_; have HO := n6_; have HB5 := n7_; clear n0_ n1_ n2_ n3_ n4_ n5_ n6_ n7_))
          go_roundg k1
          case measure => omega
          case rel =>
            refine ⟨i + 1, by rw [w_inc_ i (by have := HP.out; omega)], ⟨by omega, by have := HK.out; omega⟩, ⟨?_⟩, HX, HY, HZ, HKR, ⟨?_⟩, HB2, HB5⟩
            · have h1 := HM.out
              rw [HG.out]
              unfold pickM
              rw [if_pos hyx]
              exact (SM.mono (SM.congr h1 (fun t => by rw [mget_put, mget_put, mget_put]; by_cases e : s = t <;> simp [e])) (by omega))
            · rw [HF.out, show clashM x y z s = false from by simp [clashM, hyx]]
              exact (by simpa using HO.out)
        by_cases hxz : valM x s = valM z s
        · skip
          have g1 : (valM y s == valM x s) = false := by simpa using hyx
          have g2 : (valM x s != valM y s) = true := by simpa using (Ne.symm hyx)
          have g3 : (valM x s != valM z s) = false := by simpa using hxz
          go_wp2_with (first
            | (at_lookup; (try (refine gate_guard (by rfl) ?_; dsimp only)); obtain ⟨D, hD, hRp⟩ := HX.out; refine wpList_lookup_own_int _ rfl _ _ 51 rfl 9 3 .i64 law9 Tryd.underlying51 Tryd.underlying3 (zero3 _) b1 1000000 D rfl hD _ _ rfl (key_ok HS.out) ?_; intro c hat hwc; obtain rfl := SM.look hRp hat; clear hat hwc hD hRp)
            | (at_lookup; (try (refine gate_guard (by rfl) ?_; dsimp only)); obtain ⟨D, hD, hRp⟩ := HY.out; refine wpList_lookup_own_int _ rfl _ _ 51 rfl 9 3 .i64 law9 Tryd.underlying51 Tryd.underlying3 (zero3 _) b2 1000000 D rfl hD _ _ rfl (key_ok HS.out) ?_; intro c hat hwc; obtain rfl := SM.look hRp hat; clear hat hwc hD hRp)
            | (at_lookup; (try (refine gate_guard (by rfl) ?_; dsimp only)); obtain ⟨D, hD, hRp⟩ := HZ.out; refine wpList_lookup_own_int _ rfl _ _ 51 rfl 9 3 .i64 law9 Tryd.underlying51 Tryd.underlying3 (zero3 _) b3 1000000 D rfl hD _ _ rfl (key_ok HS.out) ?_; intro c hat hwc; obtain rfl := SM.look hRp hat; clear hat hwc hD hRp)
            | (at_mapUpdate
               obtain ⟨D, hD, hRp⟩ := HM.out
               refine wpList_mapUpdate_own _ rfl _ _ _ 51 rfl 9 3 law9 Tryd.underlying51 _ bm (2 * i) D rfl hD (by have := HK.out; have := HP.out; unfold maxLen; omega) _ _ _ rfl rfl (key_ok HS.out) _ [] (val_ok HV.out.2.1) ?_
               intro w9 hown9 hgrow9
               have n0_ := Aside0.mk (show SM Tryd.prog 9 3 w9 bm (2 * i + 1) (mput (mergedM x y z (ks.take i)) s (valM y s)) from ⟨_, hown9, hRp.put hD.isMap s _⟩)
               have n1_ := Aside0.mk (HB2.out.grown hgrow9 HB2.out.size (fun k hk => by cases hk; exact HBM.out.1))
               have n2_ := Aside0.mk (HX.out.grown hgrow9 (by intro e; injection e with e; have := HBM.out; omega))
               have n3_ := Aside0.mk (HY.out.grown hgrow9 (by intro e; injection e with e; have := HBM.out; omega))
               have n4_ := Aside0.mk (HZ.out.grown hgrow9 (by intro e; injection e with e; have := HBM.out; omega))
               have n5_ := Aside0.mk (Kd.R_grown HKR.out hgrow9 (fun k hk e => by injection e with e; have := HBM.out; omega))
               have n6_ := Aside0.mk (Kd.R_grown HO.out hgrow9 (fun k hk e => by injection e with e; have := HBM.out; omega))
               have n7_ := Aside0.mk (Nat.le_trans HB5.out hgrow9.size)
               clear HM HB2 HX HY HZ HKR HO hD hRp hown9 hgrow9 HB5
               have HM := n0_; have HB2 := n1_; have HX := n2_; have HY := n3_; have HZ := n4_; have HKR := n5_; have HO := n6_; have HB5 := n7_; clear n0_ n1_ n2_ n3_ n4_ n5_ n6_ n7_
               obtain ⟨Dx, hDx, hRx⟩ := HX.out; obtain ⟨cx, hrunx, hatx, hcx⟩ := hDx.lookup_int law9 Tryd.underlying51 Tryd.underlying3 (zero3 _) (key_ok HS.out); obtain rfl := SM.look hRx hatx; clear hDx hRx hatx hcx
               obtain ⟨Dy, hDy, hRy⟩ := HY.out; obtain ⟨cy, hruny, haty, hcy⟩ := hDy.lookup_int law9 Tryd.underlying51 Tryd.underlying3 (zero3 _) (key_ok HS.out); obtain rfl := SM.look hRy haty; clear hDy hRy haty hcy
               obtain ⟨Dz, hDz, hRz⟩ := HZ.out; obtain ⟨cz, hrunz, hatz, hcz⟩ := hDz.lookup_int law9 Tryd.underlying51 Tryd.underlying3 (zero3 _) (key_ok HS.out); obtain rfl := SM.look hRz hatz; clear hDz hRz hatz hcz))
          go_roundg k1
          case measure => omega
          case rel =>
            refine ⟨i + 1, by rw [w_inc_ i (by have := HP.out; omega)], ⟨by omega, by have := HK.out; omega⟩, ⟨?_⟩, HX, HY, HZ, HKR, ⟨?_⟩, HB2, HB5⟩
            · have h1 := HM.out
              rw [HG.out]
              unfold pickM
              rw [if_neg hyx]
              exact (SM.mono h1 (by omega))
            · rw [HF.out, show clashM x y z s = false from by simp [clashM, hxz]]
              exact (by simpa using HO.out)
        by_cases hyz : valM y s = valM z s
        · skip
          have g1 : (valM y s == valM x s) = false := by simpa using hyx
          have g2 : (valM x s != valM y s) = true := by simpa using (Ne.symm hyx)
          have g3 : (valM x s != valM z s) = true := by simpa using hxz
          have g4 : (valM y s != valM z s) = false := by simpa using hyz
          go_wp2_with (first
            | (at_lookup; (try (refine gate_guard (by rfl) ?_; dsimp only)); obtain ⟨D, hD, hRp⟩ := HX.out; refine wpList_lookup_own_int _ rfl _ _ 51 rfl 9 3 .i64 law9 Tryd.underlying51 Tryd.underlying3 (zero3 _) b1 1000000 D rfl hD _ _ rfl (key_ok HS.out) ?_; intro c hat hwc; obtain rfl := SM.look hRp hat; clear hat hwc hD hRp)
            | (at_lookup; (try (refine gate_guard (by rfl) ?_; dsimp only)); obtain ⟨D, hD, hRp⟩ := HY.out; refine wpList_lookup_own_int _ rfl _ _ 51 rfl 9 3 .i64 law9 Tryd.underlying51 Tryd.underlying3 (zero3 _) b2 1000000 D rfl hD _ _ rfl (key_ok HS.out) ?_; intro c hat hwc; obtain rfl := SM.look hRp hat; clear hat hwc hD hRp)
            | (at_lookup; (try (refine gate_guard (by rfl) ?_; dsimp only)); obtain ⟨D, hD, hRp⟩ := HZ.out; refine wpList_lookup_own_int _ rfl _ _ 51 rfl 9 3 .i64 law9 Tryd.underlying51 Tryd.underlying3 (zero3 _) b3 1000000 D rfl hD _ _ rfl (key_ok HS.out) ?_; intro c hat hwc; obtain rfl := SM.look hRp hat; clear hat hwc hD hRp)
            | (at_mapUpdate
               obtain ⟨D, hD, hRp⟩ := HM.out
               refine wpList_mapUpdate_own _ rfl _ _ _ 51 rfl 9 3 law9 Tryd.underlying51 _ bm (2 * i) D rfl hD (by have := HK.out; have := HP.out; unfold maxLen; omega) _ _ _ rfl rfl (key_ok HS.out) _ [] (val_ok HV.out.2.1) ?_
               intro w9 hown9 hgrow9
               have n0_ := Aside0.mk (show SM Tryd.prog 9 3 w9 bm (2 * i + 1) (mput (mergedM x y z (ks.take i)) s (valM y s)) from ⟨_, hown9, hRp.put hD.isMap s _⟩)
               have n1_ := Aside0.mk (HB2.out.grown hgrow9 HB2.out.size (fun k hk => by cases hk; exact HBM.out.1))
               have n2_ := Aside0.mk (HX.out.grown hgrow9 (by intro e; injection e with e; have := HBM.out; omega))
               have n3_ := Aside0.mk (HY.out.grown hgrow9 (by intro e; injection e with e; have := HBM.out; omega))
               have n4_ := Aside0.mk (HZ.out.grown hgrow9 (by intro e; injection e with e; have := HBM.out; omega))
               have n5_ := Aside0.mk (Kd.R_grown HKR.out hgrow9 (fun k hk e => by injection e with e; have := HBM.out; omega))
               have n6_ := Aside0.mk (Kd.R_grown HO.out hgrow9 (fun k hk e => by injection e with e; have := HBM.out; omega))
               have n7_ := Aside0.mk (Nat.le_trans HB5.out hgrow9.size)
               clear HM HB2 HX HY HZ HKR HO hD hRp hown9 hgrow9 HB5
               have HM := n0_; have HB2 := n1_; have HX := n2_; have HY := n3_; have HZ := n4_; have HKR := n5_; have HO := n6_; have HB5 := n7_; clear n0_ n1_ n2_ n3_ n4_ n5_ n6_ n7_
               obtain ⟨Dx, hDx, hRx⟩ := HX.out; obtain ⟨cx, hrunx, hatx, hcx⟩ := hDx.lookup_int law9 Tryd.underlying51 Tryd.underlying3 (zero3 _) (key_ok HS.out); obtain rfl := SM.look hRx hatx; clear hDx hRx hatx hcx
               obtain ⟨Dy, hDy, hRy⟩ := HY.out; obtain ⟨cy, hruny, haty, hcy⟩ := hDy.lookup_int law9 Tryd.underlying51 Tryd.underlying3 (zero3 _) (key_ok HS.out); obtain rfl := SM.look hRy haty; clear hDy hRy haty hcy
               obtain ⟨Dz, hDz, hRz⟩ := HZ.out; obtain ⟨cz, hrunz, hatz, hcz⟩ := hDz.lookup_int law9 Tryd.underlying51 Tryd.underlying3 (zero3 _) (key_ok HS.out); obtain rfl := SM.look hRz hatz; clear hDz hRz hatz hcz))
          go_roundg k1
          case measure => omega
          case rel =>
            refine ⟨i + 1, by rw [w_inc_ i (by have := HP.out; omega)], ⟨by omega, by have := HK.out; omega⟩, ⟨?_⟩, HX, HY, HZ, HKR, ⟨?_⟩, HB2, HB5⟩
            · have h1 := HM.out
              rw [HG.out]
              unfold pickM
              rw [if_neg hyx]
              exact (SM.mono h1 (by omega))
            · rw [HF.out, show clashM x y z s = false from by simp [clashM, hyz]]
              exact (by simpa using HO.out)
        · skip
          have g1 : (valM y s == valM x s) = false := by simpa using hyx
          have g2 : (valM x s != valM y s) = true := by simpa using (Ne.symm hyx)
          have g3 : (valM x s != valM z s) = true := by simpa using hxz
          have g4 : (valM y s != valM z s) = true := by simpa using hyz
          go_wp2_with (first
            | (at_lookup; (try (refine gate_guard (by rfl) ?_; dsimp only)); obtain ⟨D, hD, hRp⟩ := HX.out; refine wpList_lookup_own_int _ rfl _ _ 51 rfl 9 3 .i64 law9 Tryd.underlying51 Tryd.underlying3 (zero3 _) b1 1000000 D rfl hD _ _ rfl (key_ok HS.out) ?_; intro c hat hwc; obtain rfl := SM.look hRp hat; clear hat hwc hD hRp)
            | (at_lookup; (try (refine gate_guard (by rfl) ?_; dsimp only)); obtain ⟨D, hD, hRp⟩ := HY.out; refine wpList_lookup_own_int _ rfl _ _ 51 rfl 9 3 .i64 law9 Tryd.underlying51 Tryd.underlying3 (zero3 _) b2 1000000 D rfl hD _ _ rfl (key_ok HS.out) ?_; intro c hat hwc; obtain rfl := SM.look hRp hat; clear hat hwc hD hRp)
            | (at_lookup; (try (refine gate_guard (by rfl) ?_; dsimp only)); obtain ⟨D, hD, hRp⟩ := HZ.out; refine wpList_lookup_own_int _ rfl _ _ 51 rfl 9 3 .i64 law9 Tryd.underlying51 Tryd.underlying3 (zero3 _) b3 1000000 D rfl hD _ _ rfl (key_ok HS.out) ?_; intro c hat hwc; obtain rfl := SM.look hRp hat; clear hat hwc hD hRp)
            | (at_mapUpdate
               obtain ⟨D, hD, hRp⟩ := HM.out
               refine wpList_mapUpdate_own _ rfl _ _ _ 51 rfl 9 3 law9 Tryd.underlying51 _ bm (2 * i) D rfl hD (by have := HK.out; have := HP.out; unfold maxLen; omega) _ _ _ rfl rfl (key_ok HS.out) _ [] (val_ok HV.out.2.1) ?_
               intro w9 hown9 hgrow9
               have n0_ := Aside0.mk (show SM Tryd.prog 9 3 w9 bm (2 * i + 1) (mput (mergedM x y z (ks.take i)) s (valM y s)) from ⟨_, hown9, hRp.put hD.isMap s _⟩)
               have n1_ := Aside0.mk (HB2.out.grown hgrow9 HB2.out.size (fun k hk => by cases hk; exact HBM.out.1))
               have n2_ := Aside0.mk (HX.out.grown hgrow9 (by intro e; injection e with e; have := HBM.out; omega))
               have n3_ := Aside0.mk (HY.out.grown hgrow9 (by intro e; injection e with e; have := HBM.out; omega))
               have n4_ := Aside0.mk (HZ.out.grown hgrow9 (by intro e; injection e with e; have := HBM.out; omega))
               have n5_ := Aside0.mk (Kd.R_grown HKR.out hgrow9 (fun k hk e => by injection e with e; have := HBM.out; omega))
               have n6_ := Aside0.mk (Kd.R_grown HO.out hgrow9 (fun k hk e => by injection e with e; have := HBM.out; omega))
               have n7_ := Aside0.mk (Nat.le_trans HB5.out hgrow9.size)
               clear HM HB2 HX HY HZ HKR HO hD hRp hown9 hgrow9 HB5
               have HM := n0_; have HB2 := n1_; have HX := n2_; have HY := n3_; have HZ := n4_; have HKR := n5_; have HO := n6_; have HB5 := n7_; clear n0_ n1_ n2_ n3_ n4_ n5_ n6_ n7_
               obtain ⟨Dx, hDx, hRx⟩ := HX.out; obtain ⟨cx, hrunx, hatx, hcx⟩ := hDx.lookup_int law9 Tryd.underlying51 Tryd.underlying3 (zero3 _) (key_ok HS.out); obtain rfl := SM.look hRx hatx; clear hDx hRx hatx hcx
               obtain ⟨Dy, hDy, hRy⟩ := HY.out; obtain ⟨cy, hruny, haty, hcy⟩ := hDy.lookup_int law9 Tryd.underlying51 Tryd.underlying3 (zero3 _) (key_ok HS.out); obtain rfl := SM.look hRy haty; clear hDy hRy haty hcy
               obtain ⟨Dz, hDz, hRz⟩ := HZ.out; obtain ⟨cz, hrunz, hatz, hcz⟩ := hDz.lookup_int law9 Tryd.underlying51 Tryd.underlying3 (zero3 _) (key_ok HS.out); obtain rfl := SM.look hRz hatz; clear hDz hRz hatz hcz)
            | ((with_reducible refine gate_builtin (b := .append) (xs := #[.tmp 74, .tmp 76]) rfl ?_); at_builtin
               refine Kd.R_append Kd.string (w0 := w) w.heap.size rfl (.tmp 74) (.tmp 76) 39 9 (.string ⟨#[]⟩) 16 rfl Tryd.underlying39 HI.out rfl (by decide) (by omega) _ ((ks.take i).filter (clashM x y z)) s [.string s] (fun k => e5 ≤ k) (fun _ => False) rfl rfl rfl (fun _ hk => hk.elim) (fun k hk => ?fr) HO.out HB2.out HB2.out.size ?len ?_;
               (case fr => have := HB5.out; omega);
               (case len => have h1 := List.length_filter_le (clashM x y z) (ks.take i); rw [List.length_take] at h1; have := HP.out; omega);
               intro v4 w5 ho4 hb4 hg4 hat4
               have hne : ∀ k, some k = u12.ownBlock → e5 ≤ k := fun k hk => HO.out.1 k hk.symm
               have n0_ := Aside0.mk ho4; have n1_ := Aside0.mk hb4
               have n2_ := Aside0.mk (HX.out.grown hg4 (fun e => by have := hne _ e; have := HBM.out; omega))
               have n3_ := Aside0.mk (HY.out.grown hg4 (fun e => by have := hne _ e; have := HBM.out; omega))
               have n4_ := Aside0.mk (HZ.out.grown hg4 (fun e => by have := hne _ e; have := HBM.out; omega))
               have n5_ := Aside0.mk (Kd.R_grown HKR.out hg4 (fun k hk e => by have := hne _ e; omega))
               have n6_ := Aside0.mk (HM.out.grown hg4 (fun e => by have := hne _ e; have := HBM.out; omega))
               have n7_ := Aside0.mk (Nat.le_trans HB5.out hg4.size)
               clear ho4 hb4 hg4 hat4 hne HO HB2 HX HY HZ HKR HM HB5
               have HO := n0_; have HB2 := n1_; have HX := n2_; have HY := n3_; have HZ := n4_; have HKR := n5_; have HM := n6_; have HB5 := n7_; clear n0_ n1_ n2_ n3_ n4_ n5_ n6_ n7_))
          go_roundg k1
          case measure => omega
          case rel =>
            refine ⟨i + 1, by rw [w_inc_ i (by have := HP.out; omega)], ⟨by omega, by have := HK.out; omega⟩, ⟨?_⟩, HX, HY, HZ, HKR, ⟨?_⟩, HB2, HB5⟩
            · have h1 := HM.out
              rw [HG.out]
              unfold pickM
              rw [if_neg hyx]
              exact (SM.mono h1 (by omega))
            · rw [HF.out, show clashM x y z s = true from by simp [clashM, Ne.symm hyx, hxz, hyz]]
              exact HO.out
    · have hi : i = ks.length := by have := HK.out; omega
      have c1 : decide ((i : Int) < (ks.length : Int)) = false := decide_eq_false (by omega)
      have h1 := HO.out
      have h2 := HM.out
      rw [hi, List.take_length] at h1 h2
      have hMl : (mergedM x y z ks).length = ks.length := by rw [mergedM, List.length_reverse, List.length_map]
      have hmo : okM_ (mergedM x y z ks) := fun s hs => List.all_eq_true.1 HKS0.out _ (mget_merged x y z ks s hs)
      have hfl := Aside0.mk (tree_files.calls_ bm (mergedM x y z ks) wr (h2.mono (by have := HP.out; omega)) (okM_paths hmo) (by have := HP.out; omega))
      have HO2 := Aside0.mk (Kd.R_mono h1 (ok' := fun _ => True) (fun _ _ => trivial))
      clear h1 h2 hMl hmo HM HX HY HZ HKR HO
      go_wp2_with fail
      go_at_call 37
      refine hfl.out.mono ?_
      rintro e w6 ⟨v6, rfl, hR6, hB6⟩
      have HR6 := Aside0.mk (Kd.R_lower hR6 HB2.out.size)
      have HO6 := Aside0.mk (Kd.R_below HO2.out hB6)
      have HB6 := Aside0.mk (below_then HB2.out HB2.out.size hB6)
      clear hfl hR6 hB6 HO2 HB2
      go_wp2
      go_ret2
      refine ⟨_, _, rfl, ?_, ?_, HB6.out⟩
      · rw [HXY.out.1, HXY.out.2.1, HXY.out.2.2, HKS.out]; exact HR6.out
      · rw [HXY.out.1, HXY.out.2.1, HXY.out.2.2, HKS.out]; exact HO6.out

end Go.Proofs.YtpnhamfodjfacaaDoor.N
