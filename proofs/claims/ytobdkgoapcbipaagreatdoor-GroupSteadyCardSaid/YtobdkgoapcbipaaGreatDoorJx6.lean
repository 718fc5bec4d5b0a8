import Derived.Test.YtobdkgoapcbipaaGreatDoorJx0
import Derived.Test.YtobdkgoapcbipaaGreatDoorJx1
import Derived.Test.YtobdkgoapcbipaaGreatDoorJx2
import Derived.Test.YtobdkgoapcbipaaGreatDoorJx5
namespace Go.Proofs.YtobdkgoapcbipaaGreatDoor.J
open Go.RowKit Go.Proofs.YtobdkgoapcbipaaGreatDoorW.PrintWords Go.Proofs.YtobdkgoapcbipaaGreatDoorW.PrintLast Go.Proofs.YtobdkgoapcbipaaGreatDoorW.PrintMore
set_option maxHeartbeats 4000000
set_option maxRecDepth 100000
attribute [local go_sem] max2_int min2_int max_two min_two max_three min_three max_four min_four
set_option linter.unusedVariables false
set_option linter.unusedSimpArgs false

/-! ### group_contained: function 34 (by hand) -/
open Go.Maps Go.Proofs.YtobdkgoapcbipaaGreatDoor.Q
theorem contained1 {A0 : Option Addr} {c0 : Nat} {l0 : List S36} {P : Nat → Prop} {BL BF BV b : Nat} (hl : l0.length ≤ 1000000) (hok : okGs l0 = true) : ∀ (k : Nat) (m m' : List ByteArray) (s : ByteArray) (W : World),
    visitG (subsG l0) k m s = some m' → m'.length ≤ 1000000 → CEnv W 58 BL BF BV b A0 c0 l0 P → SB Tryz.prog 9 4 W b m.length m →
    Calls Tryz.prog 58 #[.string s, .pointer (some ⟨BL, 0, none⟩), .pointer (some ⟨BF, 0, none⟩), .pointer (some ⟨BV, 0, none⟩)] W fun e w' => e = .returned (.tuple #[]) ∧ SB Tryz.prog 9 4 w' b m'.length m' ∧ W.grownBy w' (some b)
  | 0, _, _, _, _, h, _, _, _ => by cases h
  | k + 1, m, m', s, W, h, hm', hE, hS => by
    have IH := contained1 (A0 := A0) (c0 := c0) (l0 := l0) (P := P) (BL := BL) (BF := BF) (BV := BV) (b := b) hl hok k
    have hcl := aK (group_find.calls (l0.length + 1) P A0 c0 l0 s (findR l0 s).1 (findR l0 s).2.1 (findR l0 s).2.2.1 (findR l0 s).2.2.2 W hE.g (find_is l0 s hl))
    rw [findR_subs] at hcl
    have hR := okGs_subs hok s
    have H : eachG (visitG (subsG l0) k) m (subsG l0 s) = some m' := h
    clear h
    have HE := aK hE
    have HS := aK hS
    have hcL := hE.l
    have hcF := hE.f
    have hcV := hE.v
    have HH := aK (And.intro H (And.intro hR hm'))
    clear hE hS H hR hm'
    generalize subsG l0 s = ns at hcl HH
    go_enter Tryz.func58, Tryz.ntmps58
    go_wp2_with fail
    go_at_call 41
    refine hcl.out.mono ?_
    rintro e w1 ⟨v1, v2, rfl, hV1, hV2, hB⟩
    clear hcl
    obtain ⟨A1, c1, rfl⟩ := Kd.V_slice hV1
    obtain ⟨A2, c2, rfl⟩ := Kd.V_slice hV2
    have HG := aK (grown_of_below hB (some b))
    have HV := aK hV2
    have HM := aK (HS.out.below hB)
    have HLT := aK HS.out.lt
    have HB0 := aK hB.size
    generalize (findR l0 s).1 = q1 at *
    generalize (findR l0 s).2.1 = q2 at *
    generalize (findR l0 s).2.2.2 = q4 at *
    clear hV1 hV2 hB HS
    go_wp2_with (first
      | ((with_reducible refine gate_dst (N := 5) rfl ?_); refine box_event ?hg (N := 5) ?hd (cs := #[.string (⟨#[]⟩ : ByteArray), .slice none 0 0, .slice none 0 0]) (t := 36) ?hr ?_; (case hd => rfl); (case hg => rfl); (case hr => first | (go_simp; done) | (go_simp; rfl)); intro gb hg w9 hbox hb
         have n0_ := aK (Kd.V_below (Kd.V_elderB HV.out gb (Nat.le_of_eq hg.symm)) hb); have n1_ := aK (grown_below HG.out hb); have n2_ := aK hbox; have n3_ := aK (by rw [hg]; exact HB0.out : W.heap.size ≤ gb); have n4_ := aK (HM.out.below hb)
         have hcz0 : w9.cell? ⟨gb, 0, none⟩ = some (.string (⟨#[]⟩ : ByteArray)) := (blk_cell hbox 0).trans rfl
         have hcz1 : w9.cell? ⟨gb, 1, none⟩ = some (.slice none 0 0) := (blk_cell hbox 1).trans rfl
         have hcz2 : w9.cell? ⟨gb, 2, none⟩ = some (.slice none 0 0) := (blk_cell hbox 2).trans rfl
         have hfz0 := blk_frozen hbox 0
         have hfz1 := blk_frozen hbox 1
         have hfz2 := blk_frozen hbox 2
         clear HV HG HM hb hbox hg
         have HV := n0_; have HG := n1_; have BK := n2_; have GG := n3_; have HM := n4_; clear n0_ n1_ n2_ n3_ n4_))
    go_loopg [18] ns.length (fun kq v18 w' => ∃ (i : Nat) (mi : List ByteArray), v18 = .int .i64 (i : Int) ∧ Aside0 (i ≤ ns.length ∧ ns.length - i ≤ kq) ∧ Aside0 (SB Tryz.prog 9 4 w' b mi.length mi) ∧ Aside0 (eachG (visitG (subsG l0) k) mi (ns.drop i) = some m') ∧ Aside0 (W.grownBy w' (some b)) ∧ Aside0 (Kd.V Kd.string 9 w' W.heap.size (fun k_ => k_ ≠ b) (.slice A2 ns.length c2) ns))
    case atStart =>
      have hne : b ≠ gb := by have := GG.out; have := HLT.out; omega
      refine ⟨0, m, rfl, ⟨Nat.zero_le _, by omega⟩, ⟨((HM.out.far (a := ⟨gb, 0, none⟩) hne _).far (a := ⟨gb, 1, none⟩) hne _).far (a := ⟨gb, 2, none⟩) hne _⟩, ⟨by rw [List.drop_zero]; exact HH.out.1⟩, ⟨grown_set (grown_set (grown_set HG.out (a := ⟨gb, 0, none⟩) GG.out _) (a := ⟨gb, 1, none⟩) GG.out _) (a := ⟨gb, 2, none⟩) GG.out _⟩, ⟨?_⟩⟩
      refine Kd.V_mono (Kd.V_far (p := ⟨gb, 2, none⟩) (Kd.V_far (p := ⟨gb, 1, none⟩) (Kd.V_far (p := ⟨gb, 0, none⟩) HV.out (fun k hk => hk.2) _) (fun k hk => hk.2) _) (fun k hk => hk.2) _) (fun k hk => ?_)
      rcases hk.1 with h | h
      · exact HE.out.np k h
      · have := HLT.out; omega
    case round =>
      obtain ⟨i, mi, rfl, HK, HM, HC, HG, HV⟩ := hrel
      clear hcz0 hcz1 hcz2 hfz0 hfz1 hfz2 BK hcL hcF hcV
      have HE1 := aK (HE.out.grown HG.out)
      have hcL := HE1.out.l
      have hcF := HE1.out.f
      have hcV := HE1.out.v
      by_cases hlt : i < ns.length
      · cases gk with
        | zero => exfalso; have := HK.out; omega
        | succ k1 =>
          have c1 : decide ((i : Int) < (ns.length : Int)) = true := decide_eq_true (by omega)
          obtain ⟨ad, e, hx⟩ := Kd.at_string (Kd.V_reads' HV.out).2.2 (i : Int) (by omega) (by omega)
          subst e
          rw [Int.toNat_natCast, show rdOf ByteArray.empty ns (i : Int) = ns[i] from by simp [rdOf, List.getD_eq_getElem?_getD, List.getElem?_eq_getElem hlt]] at hx
          have p : (0 ≤ (i : Int)) = True := eq_true (by omega)
          have q : ((i : Int) < (ns.length : Int)) = True := eq_true (by omega)
          have HX := aK (HH.out.2.1 ns[i] (List.getElem_mem _))
          have hC := HC.out
          rw [List.drop_eq_getElem_cons hlt, eachG] at hC
          have HC := aK hC
          clear hC
          generalize ns[i] = x at hx HX HC
          by_cases hmem : x ∈ mi
          · rw [if_pos hmem] at HC
            go_wp2_with (first
              | (at_lookup
                 refine wpList_lookup_set _ rfl _ _ 51 rfl 9 4 law9 Tryz.underlying51 Tryz.underlying4 (zero4 _) b mi.length mi rfl HM.out x rfl (key_ok HX.out) ?_
                 rw [decide_eq_true hmem]))
            go_roundg k1
            case measure => omega
            case rel => exact ⟨i + 1, mi, by rw [w_inc2_ i (by have := (Kd.V_reads' HV.out).2.2.2.1; omega)], ⟨by omega, by have := HK.out; omega⟩, HM, HC, HG, HV⟩
          · rw [if_neg hmem] at HC
            obtain ⟨m1, h1, h2⟩ := Option.bind_eq_some_iff.1 HC.out
            have hlen1 := eachG_len (fun m s r h => visitG_len k m s r h) _ _ _ h2
            have hlen0 := visitG_len k _ _ _ h1
            have HL := aK (And.intro hlen0 (And.intro hlen1 HH.out.2.2))
            have HI := aK (And.intro h1 h2)
            clear h1 h2 hlen1 hlen0
            go_wp2_with (first
              | (at_lookup
                 refine wpList_lookup_set _ rfl _ _ 51 rfl 9 4 law9 Tryz.underlying51 Tryz.underlying4 (zero4 _) b mi.length mi rfl HM.out x rfl (key_ok HX.out) ?_
                 rw [decide_eq_false hmem])
              | (at_mapUpdate
                 obtain ⟨D, hD, hRp⟩ := HM.out
                 refine wpList_mapUpdate_own _ rfl _ _ _ 51 rfl 9 4 law9 Tryz.underlying51 _ b mi.length D rfl hD (by have := HL.out; rw [List.length_cons] at this; unfold maxLen; omega) _ _ _ rfl rfl (key_ok HX.out) _ [] (plainElem_bool Tryz.underlying4 true) ?_
                 intro w2 hown2 hgrow2
                 have n0_ := aK (show SB Tryz.prog 9 4 w2 b (x :: mi).length (x :: mi) from ⟨_, hown2, hRp.put hD.isMap x⟩)
                 have n1_ := aK (World.grownBy.trans HG.out hgrow2)
                 have n2_ := aK (Kd.V_grown HV.out hgrow2 (fun k hk e => hk (Option.some.inj e)))
                 have n3_ := aK (HE1.out.grown hgrow2)
                 clear HM HG HV HE1 hD hRp hown2 hgrow2 hcL hcF hcV
                 have HM := n0_; have HG := n1_; have HV := n2_; have HE1 := n3_; clear n0_ n1_ n2_ n3_
                 have hcL := HE1.out.l
                 have hcF := HE1.out.f
                 have hcV := HE1.out.v)
              | (go_at_call 58
                 refine (IH _ m1 x _ HI.out.1 (by have := HL.out; omega) HE1.out HM.out).mono ?_
                 rintro e w3 ⟨rfl, hM3, hg3⟩
                 have n0_ := aK hM3
                 have n1_ := aK (World.grownBy.trans HG.out hg3)
                 have n2_ := aK (Kd.V_grown HV.out hg3 (fun k hk e => hk (Option.some.inj e)))
                 clear HM HG HV HE1 hM3 hg3 hcL hcF hcV
                 have HM := n0_; have HG := n1_; have HV := n2_; clear n0_ n1_ n2_))
            go_roundg k1
            case measure => omega
            case rel => exact ⟨i + 1, m1, by rw [w_inc2_ i (by have := (Kd.V_reads' HV.out).2.2.2.1; omega)], ⟨by omega, by have := HK.out; omega⟩, HM, ⟨HI.out.2⟩, HG, HV⟩
      · have hi : i = ns.length := by have := HK.out; omega
        have c1 : decide ((i : Int) < (ns.length : Int)) = false := decide_eq_false (by omega)
        have h1 := HC.out
        rw [List.drop_of_length_le (by omega), eachG] at h1
        obtain rfl := Option.some.inj h1
        go_wp2
        first | go_end0 | ((try simp only [Exit.inBlock, Exit.then]); go_end0)
        exact ⟨rfl, HM.out, HG.out⟩
def group_contained.f (k : Nat) (l0 : List S36) (a1 : ByteArray) : Option (List ByteArray) := if l0.length ≤ 1000000 ∧ okGs l0 = true then (visitG (subsG l0) k [] a1).bind fun m => if m.length ≤ 1000000 then some m else none else none
theorem group_contained.mono : ∀ a0 a1 k, LeO (group_contained.f k a0 a1) (group_contained.f (k + 1) a0 a1) := by
  intro a0 a1 k
  unfold group_contained.f
  refine LeO.ite ?_ (LeO.refl _)
  exact LeO.bind (fun r h => visitG_mono k _ _ r h) (fun _ => LeO.refl _)
theorem group_contained.calls_ (k : Nat) (P0_ : Nat → Prop) (A0 : Option Addr) (c0 : Nat) (l0 : List S36) (a1 : ByteArray) (m : List ByteArray) (w : World) (hs0 : Kd.V k36 36 w w.heap.size (fun k_ => P0_ k_) (.slice A0 l0.length c0) l0) (h : group_contained.f k l0 a1 = some m) :
    Calls Tryz.prog 34 #[.slice A0 l0.length c0, .string a1] w fun e w' => ∃ b, e = .returned (.map (some b)) ∧ w.heap.size ≤ b ∧ SB Tryz.prog 9 4 w' b m.length m ∧ Below w.heap.size w w' := by
  unfold group_contained.f at h
  split at h
  case isFalse => cases h
  rename_i hh
  obtain ⟨m1, h1, h2⟩ := Option.bind_eq_some_iff.1 h
  split at h2
  case isFalse => cases h2
  rename_i hlen
  obtain rfl := Option.some.inj h2
  have HH := aK (And.intro hh (And.intro h1 hlen))
  have HV := aK (Kd.V_bound hs0)
  clear h h1 h2 hh hlen hs0
  have hmm := @run_makeMap Tryz.prog
  go_enter Tryz.func34, Tryz.ntmps34
  go_wp2_with fail
  go_at_call 58
  generalize hW : ((((w.alloc _).alloc _).alloc _).alloc _) = W
  have hb1 : Below w.heap.size w W := by rw [← hW]; exact below_alloc (below_alloc (below_alloc (below_alloc (Below.refl _ _) _) _) _) _
  have hsz : W.heap.size = w.heap.size + 1 + 1 + 1 + 1 := by rw [← hW]; simp
  have hcL : W.cell? ⟨w.heap.size, 0, none⟩ = some (.slice A0 l0.length c0) := by
    rw [← hW, World.cell?_alloc_lt _ _ _ (by simp; omega), World.cell?_alloc_lt _ _ _ (by simp; omega), World.cell?_alloc_lt _ _ _ (by simp)]
    simp
  have hcF : W.cell? ⟨w.heap.size + 1 + 1, 0, none⟩ = some (.map (some (w.heap.size + 1))) := by
    rw [← hW, World.cell?_alloc_lt _ _ _ (by simp)]
    exact cell_new_ _ _ _ _ (by simp)
  have hcV : W.cell? ⟨w.heap.size + 1 + 1 + 1, 0, none⟩ = some (.func (.func 58) #[] #[.pointer (some ⟨w.heap.size, 0, none⟩), .pointer (some ⟨w.heap.size + 1 + 1, 0, none⟩), .pointer (some ⟨w.heap.size + 1 + 1 + 1, 0, none⟩)]) := by
    rw [← hW]
    exact cell_new_ _ _ _ _ (by simp)
  have hS : SB Tryz.prog 9 4 W (w.heap.size + 1) 0 [] := by
    have h1 := SB.made (P := Tryz.prog) (ks := 9) (es := 4) (w.alloc (Obj.cells #[Value.slice A0 l0.length c0] 22))
    rw [show (w.alloc (Obj.cells #[Value.slice A0 l0.length c0] 22)).heap.size = w.heap.size + 1 by simp] at h1
    rw [← hW]
    exact h1.below (below_alloc (below_alloc (Below.refl _ _) _) _)
  have hE : CEnv W 58 w.heap.size (w.heap.size + 1 + 1) (w.heap.size + 1 + 1 + 1) (w.heap.size + 1) A0 c0 l0 (fun k => P0_ k ∧ k < w.heap.size) :=
    ⟨hcL, hcF, hcV, Kd.V_below HV.out hb1, by omega, by omega, by omega, fun k hk => by have := hk.2; omega⟩
  refine (contained1 HH.out.1.1 HH.out.1.2 k [] m1 a1 W HH.out.2.1 HH.out.2.2 hE hS).mono ?_
  rintro e w5 ⟨rfl, hM, hg⟩
  have HM := aK hM
  have HB := aK (hb1.grown hg hb1.size (fun k hk => by cases hk; omega))
  have hcF5 := cell_grown hg hcF (fun e => by injection e with e; simp only at e; omega)
  clear hM hg hE hS hcL hcF hcV hsz hb1 hW
  go_wp2
  go_ret
  exact ⟨_, rfl, by omega, HM.out, HB.out⟩

/-! ### group_Right: function 11 (by hand) -/
open Go.Maps Go.Proofs.YtobdkgoapcbipaaGreatDoor.Q
theorem sb_look_ {P : Program} {k e t : TypeId} {w : World} {b n : Nat} {s : List ByteArray} (hown : SB P k e w b n s) (K : Keyed P k) (ht : P.underlying t = some (.map k e)) (he : P.underlying e = some .bool) (hz : (zeroValue e).run P w = .ok (.bool false) w) {key : ByteArray} (hkey : keyOf P k (.string key) = some (kS key)) :
    (Instr.lookup t (.map (some b)) (.string key) false).run P w = .ok (.bool (decide (key ∈ s))) w := by
  obtain ⟨D, h1, h2⟩ := hown
  obtain ⟨v, ps, hrun, hv⟩ := h1.lookup K ht hz (plainElem_bool he false) hkey
  obtain ⟨c, rfl, hc⟩ := plainElem_bool_inv_ he hv
  have h3 := (congrArg Prod.fst hc).symm.trans (h2 key).2
  have h4 : c = decide (key ∈ s) := by
    dsimp only at h3
    injection h3 with h3
    injection h3
  rw [hrun, h4]
theorem sb_drew_ {P : Program} {k e : TypeId} {w : World} {b n : Nat} {s : List ByteArray} (h : SB P k e w b n s) : SB P k e w.drew b n s := let ⟨D, h1, h2⟩ := h; ⟨D, h1.drew, h2⟩
def rights1 (k : Nat) (l : List S36) : List S36 → Nat → Option Int
  | [], _ => some 0
  | _ :: gs, i => (group_one.f k l (i : Int)).bind fun e => if e = 0 then rights1 k l gs (i + 1) else some e
def rights2 (k : Nat) (l : List S36) : List S36 → Option Bool
  | [] => some false
  | g :: gs => if okS g.f0 = true then (group_contained.f k l g.f0).bind fun m => if g.f0 ∈ m then some true else rights2 k l gs else none
def rights3 (k : Nat) (l : List S36) : List S36 → Option Bool
  | [] => some false
  | g :: gs => (group_Depth.f k l g.f0).bind fun d => if d > 12 then some true else rights3 k l gs
def group_Right.f (k : Nat) (l0 : List S36) : Option Int := if (l0.length : Int) > 16 then some 4 else (rights1 k l0 l0 0).bind fun e => if e = 0 then (rights2 k l0 l0).bind fun b => if b = true then some 10 else (rights3 k l0 l0).bind fun b2 => if b2 = true then some 4 else some 0 else some e
theorem rights1_mono (k : Nat) (l : List S36) : ∀ (gs : List S36) (i : Nat), LeO (rights1 k l gs i) (rights1 (k + 1) l gs i)
  | [], _ => LeO.refl _
  | g :: gs, i => LeO.bind (group_one.mono _ _ _) (fun _ => LeO.ite (rights1_mono k l gs (i + 1)) (LeO.refl _))
theorem rights2_mono (k : Nat) (l : List S36) : ∀ (gs : List S36), LeO (rights2 k l gs) (rights2 (k + 1) l gs)
  | [] => LeO.refl _
  | g :: gs => LeO.ite (LeO.bind (group_contained.mono _ _ _) (fun _ => LeO.ite (LeO.refl _) (rights2_mono k l gs))) (LeO.refl _)
theorem rights3_mono (k : Nat) (l : List S36) : ∀ (gs : List S36), LeO (rights3 k l gs) (rights3 (k + 1) l gs)
  | [] => LeO.refl _
  | g :: gs => LeO.bind (group_Depth.mono _ _ _) (fun _ => LeO.ite (LeO.refl _) (rights3_mono k l gs))
theorem group_Right.mono : ∀ a0 k, LeO (group_Right.f k a0) (group_Right.f (k + 1) a0) := by
  intro a0 k
  unfold group_Right.f
  refine LeO.ite (LeO.refl _) (LeO.bind (rights1_mono _ _ _ _) (fun _ => LeO.ite (LeO.bind (rights2_mono _ _ _) (fun _ => LeO.ite (LeO.refl _) (LeO.bind (rights3_mono _ _ _) (fun _ => LeO.refl _)))) (LeO.refl _)))
theorem group_Right.calls (k : Nat) (A0 : Option Addr) (c0 : Nat) (l0 : List (S36)) (r : Int) (w : World) (aB : Kd.C k36 w A0 l0.length l0) (aC : l0.length ≤ c0) (h : group_Right.f k l0 = some r) :
    Calls Tryz.prog 11 #[.slice A0 l0.length c0] w fun e w' => e = .returned (.int .i64 r) ∧ Below w.heap.size w w' := by
  have aM := Tryz.underlying36
  unfold group_Right.f at h
  by_cases ay : (l0.length : Int) > 16
  · rw [if_pos ay] at h
    obtain rfl := Option.some.inj h
    have c1 : decide ((16 : Int) < (l0.length : Int)) = true := decide_eq_true ay
    clear aB aC h ay
    go_enter Tryz.func11, Tryz.ntmps11
    go_wp2
    go_ret
    exact ⟨rfl, Below.refl _ _⟩
  rw [if_neg ay] at h
  have c1 : decide ((16 : Int) < (l0.length : Int)) = false := decide_eq_false ay
  obtain ⟨e1, h1, h2⟩ := Option.bind_eq_some_iff.1 h
  have au := aK aB
  have az := aK aC
  have HL := aK (show l0.length ≤ 16 by omega)
  have H1 := aK h1
  have H2 := aK h2
  clear h h1 h2 aB aC ay
  go_enter Tryz.func11, Tryz.ntmps11
  go_wp2
  go_loopg [14] l0.length (fun kq v_ w' => ∃ (i : Nat), v_ = .int .i64 (i : Int) ∧ Aside0 (i ≤ l0.length ∧ l0.length - i ≤ kq) ∧ Aside0 (rights1 k l0 (l0.drop i) i = some e1) ∧ Aside0 (Below w.heap.size w w'))
  case atStart => exact ⟨0, rfl, ⟨Nat.zero_le _, by omega⟩, ⟨by rw [List.drop_zero]; exact H1.out⟩, ⟨Below.refl _ _⟩⟩
  case round =>
    obtain ⟨i, rfl, HK, HA, HB⟩ := hrel
    clear c1
    by_cases hlt : i < l0.length
    · cases gk with
      | zero => exfalso; have := HK.out; omega
      | succ k1 =>
        have c1 : decide ((i : Int) < (l0.length : Int)) = true := decide_eq_true (by omega)
        have hA := HA.out
        rw [List.drop_eq_getElem_cons hlt, rights1] at hA
        obtain ⟨e2, h3, h4⟩ := Option.bind_eq_some_iff.1 hA
        have HO := aK h3
        have HN := aK h4
        clear hA h3 h4 HA
        by_cases he : e2 = 0
        · subst he
          rw [if_pos rfl] at HN
          go_wp2_with (first
            | (go_at_call 33
               refine (group_one.calls k _ _ l0 (i : Int) 0 _ (Kd.C_below au.out HB.out) az.out HO.out).mono ?_
               rintro e w3 ⟨rfl, av⟩
               have aa := aK (below_then HB.out HB.out.size av)
               clear HB av
               have HB := aa; clear aa))
          go_roundg k1
          case measure => omega
          case rel => exact ⟨i + 1, by rw [w_inc_ i (by have := HL.out; omega)], ⟨by omega, by have := HK.out; omega⟩, HN, HB⟩
        · rw [if_neg he] at HN
          have aO : (e2 != 0) = true := by simpa using he
          obtain rfl := Option.some.inj HN.out
          have h5 := H2.out
          rw [if_neg he] at h5
          obtain rfl := Option.some.inj h5
          clear h5
          go_wp2_with (first
            | (go_at_call 33
               refine (group_one.calls k _ _ l0 (i : Int) e2 _ (Kd.C_below au.out HB.out) az.out HO.out).mono ?_
               rintro e w3 ⟨rfl, av⟩
               have aa := aK (below_then HB.out HB.out.size av)
               clear HB av
               have HB := aa; clear aa))
          go_ret
          exact ⟨rfl, HB.out⟩
    · have HI := aK (show i = l0.length by have := HK.out; omega)
      have c1 : decide ((i : Int) < (l0.length : Int)) = false := decide_eq_false (by omega)
      have hA := HA.out
      rw [List.drop_of_length_le (by have := HI.out; omega), rights1] at hA
      obtain rfl := Option.some.inj hA
      have h5 := H2.out
      rw [if_pos rfl] at h5
      obtain ⟨b1, h6, h7⟩ := Option.bind_eq_some_iff.1 h5
      have H6 := aK h6
      have H7 := aK h7
      have aD := HB
      clear hA h5 h6 h7 H1 H2 HA HK HB
      go_wp2
      go_loopg [26] l0.length (fun kq v_ w' => ∃ (i : Nat), v_ = .int .i64 (i : Int) ∧ Aside0 (i ≤ l0.length ∧ l0.length - i ≤ kq) ∧ Aside0 (rights2 k l0 (l0.drop i) = some b1) ∧ Aside0 (Below w.heap.size w w'))
      case atStart => exact ⟨0, rfl, ⟨Nat.zero_le _, by omega⟩, ⟨by rw [List.drop_zero]; exact H6.out⟩, aD⟩
      case round =>
        obtain ⟨i, rfl, HK, HA, HB⟩ := hrel
        clear c1
        by_cases hlt : i < l0.length
        · cases gk with
          | zero => exfalso; have := HK.out; omega
          | succ k1 =>
            have c1 : decide ((i : Int) < (l0.length : Int)) = true := decide_eq_true (by omega)
            obtain ⟨ad, A1, aw, A2, aA, e, al, ap, aq, aE, aF, aG, aH⟩ := at_T36 au.out (i : Int) (by omega) (by omega)
            subst e
            rw [rd36_nat l0 i hlt, Int.toNat_natCast] at al ap aq
            replace al := (HB.out.cell (World.block_lt_of_cell? w _ al)).trans al
            replace ap := (HB.out.cell (World.block_lt_of_cell? w _ ap)).trans ap
            replace aq := (HB.out.cell (World.block_lt_of_cell? w _ aq)).trans aq
            clear aE aF aG aH
            have p : (0 ≤ (i : Int)) = True := eq_true (by omega)
            have q : ((i : Int) < (l0.length : Int)) = True := eq_true (by omega)
            have hA := HA.out
            rw [List.drop_eq_getElem_cons hlt, rights2] at hA
            generalize aI : l0[i].f0 = s at al hA
            split at hA
            case isFalse => cases hA
            rename_i hks
            obtain ⟨m2, h3, h4⟩ := Option.bind_eq_some_iff.1 hA
            have HO := aK h3
            have HN := aK h4
            have HKS := aK hks
            clear hA h3 h4 HA aI hks
            by_cases hm : s ∈ m2
            · rw [if_pos hm] at HN
              obtain rfl := Option.some.inj HN.out
              have h7 := H7.out
              rw [if_pos rfl] at h7
              obtain rfl := Option.some.inj h7
              clear h7
              go_wp2_with (first
                | ((with_reducible refine gate_dst (N := 6) rfl ?_); refine box_event ?hg (N := 6) ?hd (cs := #[.string (⟨#[]⟩ : ByteArray), .slice none 0 0, .slice none 0 0]) (t := 36) ?hr ?_; (case hd => rfl); (case hg => rfl); (case hr => first | (go_simp; done) | (go_simp; rfl)); intro gb hg w9 hbox hb
                   have aa := aK (below_step HB.out hb); have am := aK hbox; have an := aK (by rw [hg]; exact HB.out.size : w.heap.size ≤ gb)
                   have ab : w9.cell? ⟨gb, 0, none⟩ = some (.string (⟨#[]⟩ : ByteArray)) := (blk_cell hbox 0).trans rfl
                   have ac : w9.cell? ⟨gb, 1, none⟩ = some (.slice none 0 0) := (blk_cell hbox 1).trans rfl
                   have ae : w9.cell? ⟨gb, 2, none⟩ = some (.slice none 0 0) := (blk_cell hbox 2).trans rfl
                   have af := blk_frozen hbox 0
                   have ag := blk_frozen hbox 1
                   have ah := blk_frozen hbox 2
                   clear HB hb hbox hg
                   have HB := aa; have BK := am; have GG := an; clear aa am an))
              generalize ax : ((w9.setCell _ _).setCell _ _).setCell _ _ = W3
              have ak : Below w.heap.size w W3 := by rw [← ax]; exact ((HB.out.setCell (p := ⟨gb, 0, none⟩) GG.out _).setCell (p := ⟨gb, 1, none⟩) GG.out _).setCell (p := ⟨gb, 2, none⟩) GG.out _
              have hcz : W3.cell? ⟨gb, 0, none⟩ = some (.string s) := by
                have aJ : W3.heap[gb]? = some (.cells #[.string s, .slice A1 l0[i].f1.length aw, .slice A2 l0[i].f2.length aA] 36 (0, 0)) := by
                  rw [← ax]
                  refine blk_put (cs := #[.string s, .slice A1 l0[i].f1.length aw, .slice none 0 0]) ?_ 2 _ rfl
                  refine blk_put (cs := #[.string s, .slice none 0 0, .slice none 0 0]) ?_ 1 _ rfl
                  refine blk_put (cs := #[.string ⟨#[]⟩, .slice none 0 0, .slice none 0 0]) ?_ 0 _ rfl
                  exact BK.out
                exact (blk_cell aJ 0).trans rfl
              have ai : Below w.heap.size w W3.drew := below_drew ak
              have hczd : W3.drew.cell? ⟨gb, 0, none⟩ = some (.string s) := hcz
              clear ax ab ac ae af ag ah BK HB
              have hcl : Aside0 (Calls Tryz.prog 34 #[.slice (some ad) l0.length c0, .string s] W3.drew fun e w3 => ∃ b, e = .returned (.map (some b)) ∧ w3.cell? ⟨gb, 0, none⟩ = some (.string s) ∧ Below w.heap.size w w3 ∧ (Instr.lookup 51 (.map (some b)) (.string s) false).run Tryz.prog w3 = .ok (.bool true) w3 ∧ (Instr.lookup 51 (.map (some b)) (.string s) false).run Tryz.prog w3.drew = .ok (.bool true) w3.drew) := ⟨by
                refine (group_contained.calls_ k (fun k_ => k_ < w.heap.size) _ c0 l0 s m2 _ (Kd.V_below (Kd.V_mk az.out (Kd.C_F k36_heap au.out)) ai) HO.out).mono ?_
                rintro e w3 ⟨b, rfl, av, ar, ao⟩
                replace ar : SB Tryz.prog 9 4 w3 b m2.length m2 := ar
                have hlk := sb_look_ ar (t := 51) law9 Tryz.underlying51 Tryz.underlying4 (zero4 _) (key_ok HKS.out)
                have aj := sb_look_ (sb_drew_ ar) (t := 51) law9 Tryz.underlying51 Tryz.underlying4 (zero4 _) (key_ok HKS.out)
                rw [decide_eq_true hm] at hlk aj
                exact ⟨b, rfl, pw_cell_below ao hczd, below_then ai ai.size ao, hlk, aj⟩⟩
              go_region_held3 (fun w' => w'.cell? ⟨gb, 0, none⟩ = some (.string s) ∧ Below w.heap.size w w')
                (first
                  | exact ⟨by assumption, by assumption⟩
                  | exact ⟨by go_keep, by assumption⟩
                  | exact ⟨by go_keep, below_drew (by assumption)⟩)
                (first
                  | (go_at_call 34
                     refine hcl.out.mono ?_
                     rintro e w3 ⟨b, rfl, aL, aN, hlk, aj⟩))
              all_goals (go_wp2; go_ret; exact ⟨rfl, by assumption⟩)
            · rw [if_neg hm] at HN
              go_wp2_with (first
                | ((with_reducible refine gate_dst (N := 6) rfl ?_); refine box_event ?hg (N := 6) ?hd (cs := #[.string (⟨#[]⟩ : ByteArray), .slice none 0 0, .slice none 0 0]) (t := 36) ?hr ?_; (case hd => rfl); (case hg => rfl); (case hr => first | (go_simp; done) | (go_simp; rfl)); intro gb hg w9 hbox hb
                   have aa := aK (below_step HB.out hb); have am := aK hbox; have an := aK (by rw [hg]; exact HB.out.size : w.heap.size ≤ gb)
                   have ab : w9.cell? ⟨gb, 0, none⟩ = some (.string (⟨#[]⟩ : ByteArray)) := (blk_cell hbox 0).trans rfl
                   have ac : w9.cell? ⟨gb, 1, none⟩ = some (.slice none 0 0) := (blk_cell hbox 1).trans rfl
                   have ae : w9.cell? ⟨gb, 2, none⟩ = some (.slice none 0 0) := (blk_cell hbox 2).trans rfl
                   have af := blk_frozen hbox 0
                   have ag := blk_frozen hbox 1
                   have ah := blk_frozen hbox 2
                   clear HB hb hbox hg
                   have HB := aa; have BK := am; have GG := an; clear aa am an))
              generalize ax : ((w9.setCell _ _).setCell _ _).setCell _ _ = W3
              have ak : Below w.heap.size w W3 := by rw [← ax]; exact ((HB.out.setCell (p := ⟨gb, 0, none⟩) GG.out _).setCell (p := ⟨gb, 1, none⟩) GG.out _).setCell (p := ⟨gb, 2, none⟩) GG.out _
              have hcz : W3.cell? ⟨gb, 0, none⟩ = some (.string s) := by
                have aJ : W3.heap[gb]? = some (.cells #[.string s, .slice A1 l0[i].f1.length aw, .slice A2 l0[i].f2.length aA] 36 (0, 0)) := by
                  rw [← ax]
                  refine blk_put (cs := #[.string s, .slice A1 l0[i].f1.length aw, .slice none 0 0]) ?_ 2 _ rfl
                  refine blk_put (cs := #[.string s, .slice none 0 0, .slice none 0 0]) ?_ 1 _ rfl
                  refine blk_put (cs := #[.string ⟨#[]⟩, .slice none 0 0, .slice none 0 0]) ?_ 0 _ rfl
                  exact BK.out
                exact (blk_cell aJ 0).trans rfl
              have ai : Below w.heap.size w W3.drew := below_drew ak
              have hczd : W3.drew.cell? ⟨gb, 0, none⟩ = some (.string s) := hcz
              clear ax ab ac ae af ag ah BK HB
              have hcl : Aside0 (Calls Tryz.prog 34 #[.slice (some ad) l0.length c0, .string s] W3.drew fun e w3 => ∃ b, e = .returned (.map (some b)) ∧ w3.cell? ⟨gb, 0, none⟩ = some (.string s) ∧ Below w.heap.size w w3 ∧ (Instr.lookup 51 (.map (some b)) (.string s) false).run Tryz.prog w3 = .ok (.bool false) w3 ∧ (Instr.lookup 51 (.map (some b)) (.string s) false).run Tryz.prog w3.drew = .ok (.bool false) w3.drew) := ⟨by
                refine (group_contained.calls_ k (fun k_ => k_ < w.heap.size) _ c0 l0 s m2 _ (Kd.V_below (Kd.V_mk az.out (Kd.C_F k36_heap au.out)) ai) HO.out).mono ?_
                rintro e w3 ⟨b, rfl, av, ar, ao⟩
                replace ar : SB Tryz.prog 9 4 w3 b m2.length m2 := ar
                have hlk := sb_look_ ar (t := 51) law9 Tryz.underlying51 Tryz.underlying4 (zero4 _) (key_ok HKS.out)
                have aj := sb_look_ (sb_drew_ ar) (t := 51) law9 Tryz.underlying51 Tryz.underlying4 (zero4 _) (key_ok HKS.out)
                rw [decide_eq_false hm] at hlk aj
                exact ⟨b, rfl, pw_cell_below ao hczd, below_then ai ai.size ao, hlk, aj⟩⟩
              go_region_held3 (fun w' => w'.cell? ⟨gb, 0, none⟩ = some (.string s) ∧ Below w.heap.size w w')
                (first
                  | exact ⟨by assumption, by assumption⟩
                  | exact ⟨by go_keep, by assumption⟩
                  | exact ⟨by go_keep, below_drew (by assumption)⟩)
                (first
                  | (go_at_call 34
                     refine hcl.out.mono ?_
                     rintro e w3 ⟨b, rfl, aL, aN, hlk, aj⟩))
              all_goals (go_wp2; go_roundg k1; (case measure => omega); (case rel => exact ⟨i + 1, by rw [w_inc_ i (by have := HL.out; omega)], ⟨by omega, by have := HK.out; omega⟩, HN, ⟨by assumption⟩⟩))
        · have HI := aK (show i = l0.length by have := HK.out; omega)
          have c1 : decide ((i : Int) < (l0.length : Int)) = false := decide_eq_false (by omega)
          have hA := HA.out
          rw [List.drop_of_length_le (by have := HI.out; omega), rights2] at hA
          obtain rfl := Option.some.inj hA
          have h5 := H7.out
          rw [if_neg (by decide)] at h5
          obtain ⟨b1, h6, h7⟩ := Option.bind_eq_some_iff.1 h5
          have H8 := aK h6
          have H9 := aK h7
          have aD := HB
          clear hA h5 h6 h7 H6 H7 HA HK HB
          go_wp2
          go_loopg [40] l0.length (fun kq v_ w' => ∃ (i : Nat), v_ = .int .i64 (i : Int) ∧ Aside0 (i ≤ l0.length ∧ l0.length - i ≤ kq) ∧ Aside0 (rights3 k l0 (l0.drop i) = some b1) ∧ Aside0 (Below w.heap.size w w'))
          case atStart => exact ⟨0, rfl, ⟨Nat.zero_le _, by omega⟩, ⟨by rw [List.drop_zero]; exact H8.out⟩, aD⟩
          case round =>
            obtain ⟨i, rfl, HK, HA, HB⟩ := hrel
            clear c1
            by_cases hlt : i < l0.length
            · cases gk with
              | zero => exfalso; have := HK.out; omega
              | succ k1 =>
                have c1 : decide ((i : Int) < (l0.length : Int)) = true := decide_eq_true (by omega)
                obtain ⟨ad, A1, aw, A2, aA, e, al, ap, aq, aE, aF, aG, aH⟩ := at_T36 au.out (i : Int) (by omega) (by omega)
                subst e
                rw [rd36_nat l0 i hlt, Int.toNat_natCast] at al ap aq
                replace al := (HB.out.cell (World.block_lt_of_cell? w _ al)).trans al
                replace ap := (HB.out.cell (World.block_lt_of_cell? w _ ap)).trans ap
                replace aq := (HB.out.cell (World.block_lt_of_cell? w _ aq)).trans aq
                clear aE aF aG aH
                have p : (0 ≤ (i : Int)) = True := eq_true (by omega)
                have q : ((i : Int) < (l0.length : Int)) = True := eq_true (by omega)
                have hA := HA.out
                rw [List.drop_eq_getElem_cons hlt, rights3] at hA
                generalize aI : l0[i].f0 = s at al hA
                obtain ⟨d2, h3, h4⟩ := Option.bind_eq_some_iff.1 hA
                have HO := aK h3
                have HN := aK h4
                clear hA h3 h4 HA aI
                by_cases hm : d2 > 12
                · rw [if_pos hm] at HN
                  obtain rfl := Option.some.inj HN.out
                  have h7 := H9.out
                  rw [if_pos rfl] at h7
                  obtain rfl := Option.some.inj h7
                  have hd : decide ((12 : Int) < d2) = true := decide_eq_true hm
                  clear h7
                  go_wp2_with (first
                    | ((with_reducible refine gate_dst (N := 8) rfl ?_); refine box_event ?hg (N := 8) ?hd (cs := #[.string (⟨#[]⟩ : ByteArray), .slice none 0 0, .slice none 0 0]) (t := 36) ?hr ?_; (case hd => rfl); (case hg => rfl); (case hr => first | (go_simp; done) | (go_simp; rfl)); intro gb hg w9 hbox hb
                       have aa := aK (below_step HB.out hb); have am := aK hbox; have an := aK (by rw [hg]; exact HB.out.size : w.heap.size ≤ gb)
                       have ab : w9.cell? ⟨gb, 0, none⟩ = some (.string (⟨#[]⟩ : ByteArray)) := (blk_cell hbox 0).trans rfl
                       have ac : w9.cell? ⟨gb, 1, none⟩ = some (.slice none 0 0) := (blk_cell hbox 1).trans rfl
                       have ae : w9.cell? ⟨gb, 2, none⟩ = some (.slice none 0 0) := (blk_cell hbox 2).trans rfl
                       have af := blk_frozen hbox 0
                       have ag := blk_frozen hbox 1
                       have ah := blk_frozen hbox 2
                       clear HB hb hbox hg
                       have HB := aa; have BK := am; have GG := an; clear aa am an)
                    | (go_at_call 21
                       have ak := ((HB.out.setCell (p := ⟨gb, 0, none⟩) GG.out (.string s)).setCell (p := ⟨gb, 1, none⟩) GG.out (.slice A1 l0[i].f1.length aw)).setCell (p := ⟨gb, 2, none⟩) GG.out (.slice A2 l0[i].f2.length aA)
                       refine (group_Depth.calls k _ c0 l0 s d2 _ (Kd.C_below au.out ak) az.out HO.out).mono ?_
                       rintro e w3 ⟨rfl, ao⟩
                       have aa := aK (below_then ak ak.size ao)
                       clear HB ak ao ab ac ae af ag ah BK
                       have HB := aa; clear aa))
                  go_ret
                  exact ⟨rfl, HB.out⟩
                · rw [if_neg hm] at HN
                  have hd : decide ((12 : Int) < d2) = false := decide_eq_false hm
                  go_wp2_with (first
                    | ((with_reducible refine gate_dst (N := 8) rfl ?_); refine box_event ?hg (N := 8) ?hd (cs := #[.string (⟨#[]⟩ : ByteArray), .slice none 0 0, .slice none 0 0]) (t := 36) ?hr ?_; (case hd => rfl); (case hg => rfl); (case hr => first | (go_simp; done) | (go_simp; rfl)); intro gb hg w9 hbox hb
                       have aa := aK (below_step HB.out hb); have am := aK hbox; have an := aK (by rw [hg]; exact HB.out.size : w.heap.size ≤ gb)
                       have ab : w9.cell? ⟨gb, 0, none⟩ = some (.string (⟨#[]⟩ : ByteArray)) := (blk_cell hbox 0).trans rfl
                       have ac : w9.cell? ⟨gb, 1, none⟩ = some (.slice none 0 0) := (blk_cell hbox 1).trans rfl
                       have ae : w9.cell? ⟨gb, 2, none⟩ = some (.slice none 0 0) := (blk_cell hbox 2).trans rfl
                       have af := blk_frozen hbox 0
                       have ag := blk_frozen hbox 1
                       have ah := blk_frozen hbox 2
                       clear HB hb hbox hg
                       have HB := aa; have BK := am; have GG := an; clear aa am an)
                    | (go_at_call 21
                       have ak := ((HB.out.setCell (p := ⟨gb, 0, none⟩) GG.out (.string s)).setCell (p := ⟨gb, 1, none⟩) GG.out (.slice A1 l0[i].f1.length aw)).setCell (p := ⟨gb, 2, none⟩) GG.out (.slice A2 l0[i].f2.length aA)
                       refine (group_Depth.calls k _ c0 l0 s d2 _ (Kd.C_below au.out ak) az.out HO.out).mono ?_
                       rintro e w3 ⟨rfl, ao⟩
                       have aa := aK (below_then ak ak.size ao)
                       clear HB ak ao ab ac ae af ag ah BK
                       have HB := aa; clear aa))
                  go_roundg k1
                  case measure => omega
                  case rel => exact ⟨i + 1, by rw [w_inc_ i (by have := HL.out; omega)], ⟨by omega, by have := HK.out; omega⟩, HN, HB⟩
            · have HI := aK (show i = l0.length by have := HK.out; omega)
              have c1 : decide ((i : Int) < (l0.length : Int)) = false := decide_eq_false (by omega)
              have hA := HA.out
              rw [List.drop_of_length_le (by have := HI.out; omega), rights3] at hA
              obtain rfl := Option.some.inj hA
              have h5 := H9.out
              rw [if_neg (by decide)] at h5
              obtain rfl := Option.some.inj h5
              clear hA h5
              go_wp2
              go_ret
              exact ⟨rfl, HB.out⟩
/-- The place of the first group of a name; -1 if there is none. -/
def idxG (s : ByteArray) : List S36 → Nat → Int
  | [], _ => -1
  | g :: gs, i => if g.f0 = s then (i : Int) else idxG s gs (i + 1)
def group_idx.f (k : Nat) (l0 : List S36) (a1 : ByteArray) : Option Int := if l0.length ≤ 1000000 ∧ l0.length < k then some (idxG a1 l0 0) else none
theorem group_idx.mono : ∀ a0 a1 k, LeO (group_idx.f k a0 a1) (group_idx.f (k + 1) a0 a1) := by
  intro a0 a1 k r h
  unfold group_idx.f at h ⊢
  split at h
  · rename_i c
    rw [if_pos ⟨c.1, by omega⟩]; exact h
  · cases h
/-- Has a group this name? (the function that Set hands to IndexFunc) -/
theorem fn51_calls {w : World} {gb : Nat} {s x : ByteArray} {A1 A2 : Option Addr} {n1 n2 c1 c2 : Nat} (hb : w.cell? ⟨gb, 0, none⟩ = some (.string s)) :
    Calls Tryz.prog 51 #[.agg #[.string x, .slice A1 n1 c1, .slice A2 n2 c2], .pointer (some ⟨gb, 0, none⟩)] w fun e w' => e = .returned (.bool (x.toList == s.toList)) ∧ Below w.heap.size w w' := by
  have HB := aK (Below.refl w.heap.size w)
  have HX := aK hb
  clear hb
  go_enter Tryz.func51, Tryz.ntmps51
  go_wp2_with (first
    | ((with_reducible refine gate_dst (N := 2) rfl ?_); refine box_event ?hg (N := 2) ?hd (cs := #[.string x, .slice A1 n1 c1, .slice A2 n2 c2]) (t := 36) ?hr ?_; (case hd => rfl); (case hg => rfl); (case hr => first | (go_simp; done) | (go_simp; rfl))
       intro g9 hg w9 hbox hb9
       have hs : w9.cell? ⟨gb, 0, none⟩ = some (.string s) := (hb9.cell (World.block_lt_of_cell? w _ HX.out)).trans HX.out
       have hf : w9.frozen? ⟨gb, 0, none⟩ = w.frozen? ⟨gb, 0, none⟩ := hb9.frozen (World.block_lt_of_cell? w _ HX.out)
       have hx : w9.cell? ⟨g9, 0, none⟩ = some (.string x) := (blk_cell hbox 0).trans rfl
       have hfx := blk_frozen hbox 0
       have n0_ := aK (below_step HB.out hb9)
       clear HB hb9 hbox hg
       have HB := n0_
       clear n0_))
  go_ret
  exact ⟨rfl, HB.out⟩
theorem idxG_step (s : ByteArray) (l : List S36) (i : Nat) (h : i < l.length) : idxG s (l.drop i) i = if l[i].f0 = s then (i : Int) else idxG s (l.drop (i + 1)) (i + 1) := by
  rw [List.drop_eq_getElem_cons h, idxG]
theorem rd36_at (l : List S36) (i : Nat) (h : i < l.length) : rd_T36 l (i : Int) = l[i] := by
  simp [rd_T36, List.getD_eq_getElem?_getD, List.getElem?_eq_getElem h]
theorem str_eq_ {x y : ByteArray} : (x.toList == y.toList) = decide (x = y) := by
  by_cases h : x = y
  · subst h; simp
  · rw [decide_eq_false h]
    exact beq_eq_false_iff_ne.mpr fun e => h (toList_eq_.1 e)
theorem group_idx.callz (k : Nat) (A0 : Option Addr) (c0 : Nat) (l0 : List S36) (a1 : ByteArray) (r : Int) (w : World) (gb : Nat) (hr0 : Kd.C k36 w A0 l0.length l0) (hc0 : l0.length ≤ c0) (hbx : w.cell? ⟨gb, 0, none⟩ = some (.string a1)) (h : group_idx.f k l0 a1 = some r) :
    Calls Tryz.prog 50 #[.slice A0 l0.length c0, .func (.func 51) #[] #[.pointer (some ⟨gb, 0, none⟩)]] w fun e w' => e = .returned (.int .i64 r) ∧ Below w.heap.size w w' := by
  have hu36 := Tryz.underlying36
  unfold group_idx.f at h
  split at h
  case isFalse => cases h
  rename_i hl
  obtain rfl := Option.some.inj h
  have HR0 := aK hr0
  have HC0 := aK hc0
  have HX := aK hbx
  have HL := aK hl.1
  clear hr0 hc0 hbx h hl
  have HB := aK (Below.refl w.heap.size w)
  go_enter Tryz.func50, Tryz.ntmps50
  go_wp2
  go_loopg [8] (l0.length + 1) (fun kq v8 w' => ∃ (i : Nat), v8 = .int .i64 (i : Int) ∧ Aside0 (i + kq = l0.length + 1) ∧ Aside0 (i ≤ l0.length) ∧ Aside0 (idxG a1 l0 0 = idxG a1 (l0.drop i) i) ∧ Aside0 (Below w.heap.size w w'))
  case atStart => exact ⟨0, rfl, ⟨by omega⟩, ⟨Nat.zero_le _⟩, ⟨rfl⟩, ⟨HB.out⟩⟩
  case round =>
    clear HB
    obtain ⟨i, rfl, HK, HI, HE, HB⟩ := hrel
    cases gk with
    | zero => have := HK.out; have := HI.out; omega
    | succ k1 =>
      by_cases c : i < l0.length
      · have hL := HL.out
        have c3 : decide ((i : Int) < (l0.length : Int)) = true := decide_eq_true (by omega)
        have c4 : decide (0 ≤ (i : Int)) = true := decide_eq_true (by omega)
        obtain ⟨ad, A1, c1, A2, c2, e, hx0, hx1, hx2, hl1, hi1, hl2, hi2⟩ := at_T36 (Kd.C_below HR0.out HB.out) (i : Int) (by omega) (by omega)
        rw [rd36_at l0 i c] at hx0 hx1 hx2
        cases e
        have hw1 : wrap64 ((i : Int) + 1) = ((i + 1 : Nat) : Int) := by unfold wrap64; omega
        have HS := aK (idxG_step a1 l0 i c)
        obtain ⟨g, hg⟩ : ∃ g, l0[i] = g := ⟨_, rfl⟩
        rw [hg] at hx0 hx1 hx2 HS
        simp only [Int.toNat_natCast] at hx0 hx1 hx2
        clear hl1 hi1 hl2 hi2 hL hg
        have HP := aK ((HB.out.cell (World.block_lt_of_cell? w _ HX.out)).trans HX.out)
        by_cases hs : g.f0 = a1
        · have hb1 : (g.f0.toList == a1.toList) = true := by rw [str_eq_, decide_eq_true hs]
          have HT := aK hs
          clear hs
          go_wp2_with (first
            | (go_at_call 51
               refine (fn51_calls HP.out).mono ?_
               rintro e w1 ⟨rfl, hb⟩
               rw [hb1]
               have n0_ := aK (below_step HB.out hb)
               clear HB hb
               have HB := n0_
               clear n0_))
          go_ret
          refine ⟨?_, HB.out⟩
          rw [HE.out, HS.out, if_pos HT.out]
          first | rfl | (simp; done) | (simp [*]; done)
        · have hb1 : (g.f0.toList == a1.toList) = false := by rw [str_eq_, decide_eq_false hs]
          have HT := aK hs
          clear hs
          go_wp2_with (first
            | (go_at_call 51
               refine (fn51_calls HP.out).mono ?_
               rintro e w1 ⟨rfl, hb⟩
               rw [hb1]
               have n0_ := aK (below_step HB.out hb)
               clear HB hb
               have HB := n0_
               clear n0_))
          go_roundg k1
          case measure => omega
          case rel => exact ⟨i + 1, by rw [hw1], ⟨by have := HK.out; omega⟩, ⟨by omega⟩, ⟨by rw [HE.out, HS.out, if_neg HT.out]⟩, ⟨HB.out⟩⟩
      · have c3 : decide ((i : Int) < (l0.length : Int)) = false := decide_eq_false (by omega)
        have HN := aK (show i = l0.length by have := HI.out; omega)
        go_wp2
        go_ret
        refine ⟨?_, HB.out⟩
        rw [HE.out, HN.out, List.drop_length]
        first | rfl | (simp [idxG]; done) | (simp [*, idxG]; done)

/-! ### api_Group_49: function 49 -/
def api_Group_49.f (l0 : List (S36)) : Option ((List (S36))) := (some (([] : List (S36)) : List (S36))).bind fun aa => (if aa.length + l0.length < 2199023255552 then (some (aa ++ l0)) else (none))
theorem api_Group_49.calls (ae : Nat → Prop) (A0 : Option Addr) (c0 : Nat) (l0 : List (S36)) (r : List (S36)) (w : World) (ap : Kd.V k36 36 w w.heap.size (fun k_ => ae k_) (.slice A0 l0.length c0) l0) (h : api_Group_49.f l0 = some r) :
  Calls Tryz.prog 49 #[.slice A0 l0.length c0] w fun e w' => ∃ aq : Value,e = .returned (aq) ∧ Kd.N k36 36 w' w.heap.size (fun k_ => (ae k_ ∨ w.heap.size ≤ k_)) aq r ∧ Below w.heap.size w w' := by
 cases A0 with
|none =>
  obtain rfl : l0 = [] := by
   rcases Nat.eq_zero_or_pos l0.length with hl|hl
   ·exact List.eq_nil_of_length_eq_zero hl
   ·obtain ⟨ad,ea,_⟩ := (Kd.V_reads' ap).2.2.2.2 hl
    cases ea
  have hr : r = [] := by simpa [api_Group_49.f] using h.symm
  subst hr
  clear h
  go_enter Tryz.func49,Tryz.ntmps49
  go_wp2
  go_ret
  exact ⟨_,rfl,Kd.N_nil _ _ _ _ _,Below.refl _ _⟩
|some ad0 =>
  have am := aK (show Kd.V k36 36 w w.heap.size (fun k_ => (ae k_ ∨ w.heap.size ≤ k_)) (.slice (some ad0) l0.length c0) l0 from Kd.V_mono ap (fun k_ hk => .inl hk))
  have HB := aK (Below.refl w.heap.size w)
  have H : ((some (([] : List (S36)) : List (S36))).bind fun aa => (if aa.length + l0.length < 2199023255552 then (some (aa ++ l0)) else (none))) = some r := h
  clear h
  obtain ⟨aa,ab⟩ : ∃ y_ : List (S36),y_ = (([] : List (S36))) := ⟨_,rfl⟩
  replace H : (if aa.length + l0.length < 2199023255552 then (some (aa ++ l0)) else (none)) = some r := by first|(rw [ab];with_reducible exact H)|(have ag := (Option.bind_some _ _).symm.trans H;rw [ab];with_reducible exact ag)|(have ag := (Option.bind_some _ _).symm.trans H;with_reducible exact ag)|with_reducible exact H|(rw [ab];exact H)|exact H
  have af := aK ab
  clear ab
  by_cases c2 : aa.length + l0.length < 2199023255552
  ·rw [if_pos c2] at H
   have an := aK c2
   clear c2
   obtain ⟨ao,ac⟩ : ∃ y_ : List (S36),y_ = (aa ++ l0) := ⟨_,rfl⟩
   replace H : (some ao) = some r := by first|(rw [ac];with_reducible exact H)|(have ag := (Option.bind_some _ _).symm.trans H;rw [ac];with_reducible exact ag)|(have ag := (Option.bind_some _ _).symm.trans H;with_reducible exact ag)|with_reducible exact H|(rw [ac];exact H)|exact H
   have aj := aK ac
   clear ac
   obtain rfl := Option.some.inj H
   go_enter Tryz.func49,Tryz.ntmps49
   go_wp2_with (first|((with_reducible refine gate_dst (N := 5) rfl ?_);refine Kd.N_lit k36 _ 36 ?hg (N' := 5) ?hd (xs := ([] : List (S36))) (inner := []) (ok := (fun k_ => (ae k_ ∨ w.heap.size ≤ k_))) (okp := (fun k_ => (ae k_ ∨ w.heap.size ≤ k_))) ?hr ?hp (fun _ hk => hk) ((show ∀ k_,w.heap.size ≤ k_ → (fun k_ => (ae k_ ∨ w.heap.size ≤ k_)) k_ from fun k_ hk => (.inr (Nat.le_trans (below_size (bM HB.out)) hk))) _ (Nat.le_refl _)) (Below.refl _ _) (Nat.le_refl _) (by simp) ?_;(case hd => rfl);(case hg => rfl);(case hr => first|(go_simp;done)|(go_simp;rfl));(case hp => exact (Reps.none _ _));intro ah w3 ai hb hg_ hnew_;clear hg_ hnew_;(first|rw [← af.out] at ai|(simp only [Int.reduceToNat] at ai;rw [← af.out] at ai));replace am := aK (Kd.V_elder' (vM am.out) (Kd.N_base ai) hb);have ak := aK (Kd.N_lower ai (below_size (bM HB.out)));replace HB := aK (below_step (bM HB.out) hb);clear hb ai)|((with_reducible refine gate_builtin (b := .append) (xs := #[.tmp 5,.tmp 6]) rfl ?_);at_builtin;refine Kd.N_append_rows k36 (w0 := w) w.heap.size rfl (.tmp 5) (.tmp 6) 22 36 (.agg #[(.string ⟨#[]⟩),(.slice none 0 0),(.slice none 0 0)]) 64 rfl Tryz.underlying22 info36 rfl (by decide) (by omega) ah aa l0 _ _ _ (fun k_ => (ae k_ ∨ w.heap.size ≤ k_)) (fun k_ => ((fun k_ => (ae k_ ∨ w.heap.size ≤ k_))) k_ ∧ some k_ ≠ (ah : Value).ownBlock) rfl rfl ?aO ?aR (fun _ hk => hk) ?aF ?aB ?aS ?aL ?_;(case aR => exact (by skip;exact Kd.V_F (Kd.V_mono (ok' := (fun k_ => ((fun k_ => (ae k_ ∨ w.heap.size ≤ k_))) k_ ∧ some k_ ≠ (ah : Value).ownBlock)) (am.out) (fun k_ hk => ⟨hk.1,hk.2⟩))));(case aB => exact (bM HB.out));(case aF => exact (fun k_ hk => (.inr (Nat.le_trans (below_size (bM HB.out)) hk))));(case aO => exact (nM ak.out));(case aS => exact (below_size (bM HB.out)));(case aL => have := an.out;omega);intro ar w5 ho hb hg hat;rw [← aj.out] at ho;replace HB := aK (hb);have al := aK (ho);clear ho hb hg hat))
   go_ret
   exact ⟨_,by first|rfl|(simp [errW_none,errW_some] <;> rfl)|(simp [*,errW_none,errW_some] <;> rfl),nM al.out,bM HB.out⟩
  ·rw [if_neg c2] at H
   exact absurd H (by simp)

/-! ### slices_Clone_int_int: function 42 -/
def slices_Clone_int_int.f (l0 : List Int) : Option (List Int) := (some (([] : List Int) : List Int)).bind fun aa => (if aa.length + l0.length < 17592186044416 then (some (aa ++ l0)) else (none))
theorem slices_Clone_int_int.calls (A0 : Option Addr) (c0 : Nat) (l0 : List Int) (r : List Int) (w : World) (ak : Kd.C (Kd.int .i64) w A0 l0.length l0) (ao : l0.length ≤ c0) (h : slices_Clone_int_int.f l0 = some r) :
  Calls Tryz.prog 42 #[.slice A0 l0.length c0] w fun e w' => ∃ ap : Value,e = .returned (ap) ∧ Kd.R (Kd.int .i64) 3 w' w.heap.size (fun _ => True) ap r ∧ Below w.heap.size w w' := by
 cases A0 with
|none =>
  obtain rfl : l0 = [] := by
   rcases Nat.eq_zero_or_pos l0.length with hl|hl
   ·exact List.eq_nil_of_length_eq_zero hl
   ·obtain ⟨ad,ea,_⟩ := ak.2.2 hl
    cases ea
  have hr : r = [] := by simpa [slices_Clone_int_int.f] using h.symm
  subst hr
  clear h
  go_enter Tryz.func42,Tryz.ntmps42
  go_wp2
  go_ret
  exact ⟨_,rfl,Kd.R_nil _ _ _ _ _,Below.refl _ _⟩
|some ad0 =>
  have aq := aK ak
  have au := aK ao
  clear ak ao
  have HB := aK (Below.refl w.heap.size w)
  have H : ((some (([] : List Int) : List Int)).bind fun aa => (if aa.length + l0.length < 17592186044416 then (some (aa ++ l0)) else (none))) = some r := h
  clear h
  obtain ⟨aa,ab⟩ : ∃ y_ : List Int,y_ = (([] : List Int)) := ⟨_,rfl⟩
  replace H : (if aa.length + l0.length < 17592186044416 then (some (aa ++ l0)) else (none)) = some r := by first|(rw [ab];with_reducible exact H)|(have af := (Option.bind_some _ _).symm.trans H;rw [ab];with_reducible exact af)|(have af := (Option.bind_some _ _).symm.trans H;with_reducible exact af)|with_reducible exact H|(rw [ab];exact H)|exact H
  have ae := aK ab
  clear ab
  by_cases c2 : aa.length + l0.length < 17592186044416
  ·rw [if_pos c2] at H
   have al := aK c2
   clear c2
   obtain ⟨am,ac⟩ : ∃ y_ : List Int,y_ = (aa ++ l0) := ⟨_,rfl⟩
   replace H : (some am) = some r := by first|(rw [ac];with_reducible exact H)|(have af := (Option.bind_some _ _).symm.trans H;rw [ac];with_reducible exact af)|(have af := (Option.bind_some _ _).symm.trans H;with_reducible exact af)|with_reducible exact H|(rw [ac];exact H)|exact H
   have ag := aK ac
   clear ac
   obtain rfl := Option.some.inj H
   go_enter Tryz.func42,Tryz.ntmps42
   go_wp2_with (first|((with_reducible refine gate_dst (N := 5) rfl ?_);refine Kd.R_lit (Kd.int .i64) _ 3 ?hg (N := 5) ?hd (xs := ([] : List Int)) (inner := []) (ok := fun _ => True) (okp := fun _ => True) ?hr ?hp (fun _ hk => hk) trivial (Below.refl _ _) (Nat.le_refl _) (by simp) ?_;(case hd => rfl);(case hg => rfl);(case hr => first|(go_simp;done)|(go_simp;rfl));(case hp => exact (Reps.none _ _));intro an w3 ah hb hg_ hnew_;clear hg_ hnew_;(first|rw [← ae.out] at ah|(simp only [Int.reduceToNat] at ah;rw [← ae.out] at ah));have ai := aK (Kd.R_lower ah (below_size (bM HB.out)));replace HB := aK (below_step (bM HB.out) hb);clear hb ah)|((with_reducible refine gate_builtin (b := .append) (xs := #[.tmp 5,.tmp 6]) rfl ?_);at_builtin;refine Kd.R_append_rows (Kd.int .i64) (w0 := w) w.heap.size rfl (.tmp 5) (.tmp 6) 28 3 (.int .i64 0) 8 rfl Tryz.underlying28 info3 rfl (by decide) (by omega) an aa l0 _ _ _ (fun _ => True) (fun _ => False) rfl rfl ?aO ?aR (fun _ _ h => h) (fun _ h => h.elim) ?aF ?aB ?aS ?aL ?_;(case aR => exact cM (Kd.C_below aq.out HB.out));(case aB => exact (bM HB.out));(case aF => exact (fun _ _ => trivial));(case aO => exact (rM ai.out));(case aS => exact (below_size (bM HB.out)));(case aL => have := al.out;omega);intro ar w5 ho hb hg hat;rw [← ag.out] at ho;replace HB := aK (hb);have aj := aK (ho);clear ho hb hg hat))
   go_ret
   exact ⟨_,by first|rfl|(simp [errW_none,errW_some] <;> rfl)|(simp [*,errW_none,errW_some] <;> rfl),rM aj.out,bM HB.out⟩
  ·rw [if_neg c2] at H
   exact absurd H (by simp)

/-! ### slices_Sort_int_int: function 43 (by hand) -/
open Go.Sort
theorem below_sorted {B : Nat} {w0 w : World} {g n : Nat} {d : Array Int} {os : Array Obj} (h : Below B w0 w) (hg : B ≤ g) (hB : B ≤ w.heap.size) : Below B w0 (grow (putRow (Value.int .i64) (Sort.ahead w n) g 0 d) os) :=
  (Lib.below_putRow (enc := Value.int .i64) (q := n) (d := d) h hg).trans (Lib.below_grow B _ (by rw [size_putRow]; exact hB) 0 os)
/-- What a sort leaves of a row of the call's own. -/
theorem own_sorted {w : World} {base e g n cap q : Nat} {zs ys : List Int} {os : Array Obj} (h : w.ownsRow base e 1 (.slice (some ⟨g, 0, none⟩) n cap) n (zs.map (Value.int .i64))) (hy : ys.length = n) :
    (grow (putRow (Value.int .i64) (Sort.ahead w q) g 0 ys.toArray) os).ownsRow base e 1 (.slice (some ⟨g, 0, none⟩) n cap) n (ys.map (Value.int .i64)) := by
  have h1 := Lib.ownsRow_putRow (q := q) (k := n) h hy (Nat.le_refl _)
  rw [List.take_of_length_le (by omega)] at h1
  exact Lib.ownsRow_grow h1 0 os
def slices_Sort_int_int.f (l0 : List Int) : Option (List Int) := if l0.length < 4611686018427387904 then some (sortd l0) else none
/-- A row of the call's own, sorted in its place. -/
theorem slices_Sort_int_int.sorts {w W : World} {v : Value} {l r : List Int} (hR : Kd.R (Kd.int .i64) 3 W w.heap.size (fun _ => True) v l) (hB : Below w.heap.size w W) (hl : slices_Sort_int_int.f l = some r) :
    Calls Tryz.prog 43 #[v] W fun e w' => e = .returned (.tuple #[]) ∧ Kd.R (Kd.int .i64) 3 w' w.heap.size (fun _ => True) v r ∧ Below w.heap.size w w' := by
  unfold slices_Sort_int_int.f at hl
  split at hl
  case isFalse => cases hl
  rename_i hl0
  obtain rfl := Option.some.inj hl
  have ho := Kd.own_of_R hR
  by_cases hv : v = .slice none 0 0
  · subst hv
    obtain rfl : l = [] := by
      rcases ho.2 with ⟨_, h0⟩ | ⟨g, cap, cur, h1, _⟩
      · exact List.eq_nil_of_length_eq_zero h0
      · cases h1
    refine (Tryz.slices_Sort_int_none none 0 W).mono ?_
    rintro e w2 ⟨rfl, rfl⟩
    have e1 : sortd ([] : List Int) = [] := List.eq_nil_of_length_eq_zero (by have := sortd_len []; simpa using this)
    rw [e1]
    exact ⟨rfl, hR, hB⟩
  · obtain ⟨g, cap, rfl, hg, hlt, hn, hm, hll, hH⟩ := Lib.holds_of_ownsRow ho hv
    refine (Tryz.slices_Sort_int g 0 cap l W hH hlt hl0).mono ?_
    rintro e w2 ⟨rfl, n, os, rfl⟩
    have ho2 := own_sorted (q := n) (os := os) ho (sortd_len l)
    have hB2 := below_sorted (n := n) (d := (sortd l).toArray) (os := os) hB hg (by omega)
    refine ⟨rfl, Kd.R_of_own ?_ (fun _ _ => trivial), hB2⟩
    rw [sortd_len]
    exact ho2

end Go.Proofs.YtobdkgoapcbipaaGreatDoor.J
