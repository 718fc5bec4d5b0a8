import Derived.Test.YtobdkgoapcbipaaGreatDoorJx0
import Derived.Test.YtobdkgoapcbipaaGreatDoorJx1
namespace Go.Proofs.YtobdkgoapcbipaaGreatDoor.J
open Go.RowKit Go.Proofs.YtobdkgoapcbipaaGreatDoorW.PrintWords Go.Proofs.YtobdkgoapcbipaaGreatDoorW.PrintLast Go.Proofs.YtobdkgoapcbipaaGreatDoorW.PrintMore
set_option maxHeartbeats 4000000
set_option maxRecDepth 100000
attribute [local go_sem] max2_int min2_int max_two min_two max_three min_three max_four min_four
set_option linter.unusedVariables false
set_option linter.unusedSimpArgs false

/-! ### group_Depth: function 21 (by hand) -/
open Go.Maps Go.Proofs.YtobdkgoapcbipaaGreatDoor.Q
/-- The group of a name. -/
def findG (l : List S36) (s : ByteArray) : Option S36 := l.find? fun g => decide (g.f0 = s)
def subsG (l : List S36) (s : ByteArray) : List ByteArray := ((findG l s).map (·.f2)).getD []
def findR (l : List S36) (s : ByteArray) : ByteArray × List Int × List ByteArray × Bool := match findG l s with | some g => (g.f0, g.f1, g.f2, true) | none => (⟨#[]⟩, [], [], false)
theorem rd36_nat (l : List S36) (i : Nat) (h : i < l.length) : rd_T36 l (i : Int) = l[i] := by
  simp [rd_T36, List.getD_eq_getElem?_getD, List.getElem?_eq_getElem h]
theorem toList_eq_ {x y : ByteArray} : x.toList = y.toList ↔ x = y := by
  rw [ByteArray.toList_eq, ByteArray.toList_eq]
  exact ⟨fun h => by cases x; cases y; congr 1; exact Array.toList_inj.1 h, fun h => by rw [h]⟩
theorem w_inc_ (i : Nat) (h : i ≤ 1000000000000) : wrap64 ((i : Int) + 1) = ((i + 1 : Nat) : Int) := by unfold wrap64; omega
theorem w_inc2_ (i : Nat) (h : i < 9223372036854775807) : wrap64 ((i : Int) + 1) = ((i + 1 : Nat) : Int) := by unfold wrap64; omega
theorem find_l0 (l : List S36) (s : ByteArray) (hl : l.length ≤ 1000000) : ∀ (d i k : Nat), i + d = l.length → d < k → group_find.l0 k s l (l.length : Int) (i : Int) = some (findR (l.drop i) s) := by
  intro d
  induction d with
  | zero =>
    intro i k hi hk
    obtain ⟨k, rfl⟩ : ∃ m, k = m + 1 := ⟨k - 1, by omega⟩
    rw [group_find.l0, if_neg (by omega), List.drop_of_length_le (by omega)]
    rfl
  | succ d ih =>
    intro i k hi hk
    obtain ⟨k, rfl⟩ : ∃ m, k = m + 1 := ⟨k - 1, by omega⟩
    have hlt : i < l.length := by omega
    rw [group_find.l0, if_pos (by omega), if_pos (by omega), if_pos (by omega), rd36_nat l i hlt, w_inc_ i (by omega), List.drop_eq_getElem_cons hlt, findR, findG, List.find?_cons]
    by_cases h : l[i].f0 = s
    · rw [if_pos (toList_eq_.2 h)]
      simp [h]
    · rw [if_neg (fun e => h (toList_eq_.1 e)), ih (i + 1) k (by omega) (by omega)]
      simp [h, findR, findG]
theorem find_is (l : List S36) (s : ByteArray) (hl : l.length ≤ 1000000) : group_find.f (l.length + 1) l s = some (findR l s) := by
  have := find_l0 l s hl l.length 0 (l.length + 1) (by omega) (by omega)
  rwa [List.drop_zero] at this
theorem findR_subs (l : List S36) (s : ByteArray) : (findR l s).2.2.1 = subsG l s := by
  unfold findR subsG
  cases findG l s <;> rfl
/-- What the groups hold fits a map. -/
def okGs (l : List S36) : Bool := l.all fun g => g.f2.all okS
theorem okGs_subs {l : List S36} (h : okGs l = true) (s : ByteArray) : ∀ n ∈ subsG l s, okS n = true := by
  intro n hn
  unfold subsG at hn
  cases hf : findG l s with
  | none => rw [hf] at hn; cases hn
  | some g =>
    rw [hf] at hn
    have hg := List.mem_of_find?_eq_some hf
    exact List.all_eq_true.1 (List.all_eq_true.1 h g hg) n hn
theorem eachG_len {v : List ByteArray → ByteArray → Option (List ByteArray)} (hv : ∀ m s r, v m s = some r → m.length ≤ r.length) : ∀ (ns m r : List ByteArray), eachG v m ns = some r → m.length ≤ r.length
  | [], _, _, h => by obtain rfl := Option.some.inj h; exact Nat.le_refl _
  | n :: ns, m, r, h => by
    rw [eachG] at h
    by_cases e : n ∈ m
    · rw [if_pos e] at h; exact eachG_len hv ns m r h
    · rw [if_neg e] at h
      obtain ⟨m1, h1, h2⟩ := Option.bind_eq_some_iff.1 h
      have := hv _ _ _ h1
      have := eachG_len hv ns m1 r h2
      rw [List.length_cons] at *
      omega
theorem visitG_len {R : ByteArray → List ByteArray} : ∀ (k : Nat) (m : List ByteArray) (s : ByteArray) (r : List ByteArray), visitG R k m s = some r → m.length ≤ r.length
  | 0, _, _, _, h => by cases h
  | k + 1, m, s, r, h => eachG_len (fun m s r h => visitG_len k m s r h) (R s) m r h
/-- The boxes that the closure holds. -/
structure CEnv (W : World) (fn BL BF BV b : Nat) (A0 : Option Addr) (c0 : Nat) (l0 : List S36) (P : Nat → Prop) : Prop where
  l : W.cell? ⟨BL, 0, none⟩ = some (.slice A0 l0.length c0)
  f : W.cell? ⟨BF, 0, none⟩ = some (.map (some b))
  v : W.cell? ⟨BV, 0, none⟩ = some (.func (.func fn) #[] #[.pointer (some ⟨BL, 0, none⟩), .pointer (some ⟨BF, 0, none⟩), .pointer (some ⟨BV, 0, none⟩)])
  g : Kd.V k36 36 W 0 P (.slice A0 l0.length c0) l0
  nl : BL ≠ b
  nf : BF ≠ b
  nv : BV ≠ b
  np : ∀ k, P k → k ≠ b
theorem CEnv.grown {W W1 : World} {fn BL BF BV b : Nat} {A0 : Option Addr} {c0 : Nat} {l0 : List S36} {P : Nat → Prop} (h : CEnv W fn BL BF BV b A0 c0 l0 P) (hg : W.grownBy W1 (some b)) : CEnv W1 fn BL BF BV b A0 c0 l0 P :=
  ⟨cell_grown hg h.l (fun e => h.nl (Option.some.inj e)), cell_grown hg h.f (fun e => h.nf (Option.some.inj e)), cell_grown hg h.v (fun e => h.nv (Option.some.inj e)), Kd.V_grown h.g hg (fun k hk e => h.np k hk (Option.some.inj e)), h.nl, h.nf, h.nv, h.np⟩
theorem grown_set {W W1 : World} {row : Option Nat} (h : W.grownBy W1 row) {a : Addr} (ha : W.heap.size ≤ a.block) (u : Value) : W.grownBy (W1.setCell a u) row :=
  ⟨h.os, h.tape, h.output, by have := h.size; simpa [World.setCell] using this, fun i hi hr => (Below.heap_setCell _ _ _ _ (by omega)).trans (h.block i hi hr)⟩
theorem grown_below {W W1 W2 : World} {row : Option Nat} (h : W.grownBy W1 row) (hb : Below W1.heap.size W1 W2) : W.grownBy W2 row :=
  World.grownBy.trans h (grown_of_below hb row)
@[go_sem] theorem run_store_func_ {P : Program} {w : World} {a : Addr} {m : Mode} (fn : Fn) (first captured : Array Value) : (store a (.func fn first captured) m).run P w = stored P w a (.func fn first captured) m := run_store P w a _ m rfl
theorem cell_new_ (w : World) (v : Value) (t n : Nat) (h : n = w.heap.size) : (w.alloc (.cells #[v] t)).cell? ⟨n, 0, none⟩ = some v := by subst h; simp
/-- For each of a list: it is visited; the greatest number that a visit gives. -/
def eachD (v : MP → ByteArray → Option (MP × Int)) : MP → Int → List ByteArray → Option (MP × Int)
  | d, mo, [] => some (d, mo)
  | d, mo, n :: ns => (v d n).bind fun p => eachD v p.1 (mx mo p.2) ns
def visitD (l : List S36) : Nat → MP → ByteArray → Option (MP × Int)
  | 0, _, _ => none
  | k + 1, d, s => if (findG l s).isSome = true then (if (mget d s).isSome = true then some (d, (mget d s).getD 0) else (eachD (visitD l k) (mput d s 0) 0 (subsG l s)).bind fun p => if 0 ≤ p.2 ∧ p.2 < 1000000000 then some (mput p.1 s (p.2 + 1), p.2 + 1) else none) else some (d, 0)
theorem eachD_len {v : MP → ByteArray → Option (MP × Int)} (hv : ∀ m s r, v m s = some r → m.length ≤ r.1.length) : ∀ (ns : List ByteArray) (m : MP) (mo : Int) (r : MP × Int), eachD v m mo ns = some r → m.length ≤ r.1.length
  | [], _, _, _, h => by obtain rfl := Option.some.inj h; exact Nat.le_refl _
  | n :: ns, m, mo, r, h => by
    rw [eachD] at h
    obtain ⟨m1, h1, h2⟩ := Option.bind_eq_some_iff.1 h
    exact Nat.le_trans (hv _ _ _ h1) (eachD_len hv ns m1.1 _ r h2)
theorem visitD_len {l : List S36} : ∀ (k : Nat) (m : MP) (s : ByteArray) (r : MP × Int), visitD l k m s = some r → m.length ≤ r.1.length
  | 0, _, _, _, h => by cases h
  | k + 1, m, s, r, h => by
    rw [visitD] at h
    split at h
    · split at h
      · obtain rfl := Option.some.inj h; exact Nat.le_refl _
      · obtain ⟨p, h1, h2⟩ := Option.bind_eq_some_iff.1 h
        have := eachD_len (fun m s r h => visitD_len k m s r h) _ _ _ _ h1
        split at h2
        · obtain rfl := Option.some.inj h2
          simp only [mput, List.length_cons] at *
          omega
        · cases h2
    · obtain rfl := Option.some.inj h; exact Nat.le_refl _
theorem eachD_mono {v v' : MP → ByteArray → Option (MP × Int)} (hv : ∀ m s r, v m s = some r → v' m s = some r) : ∀ (ns : List ByteArray) (m : MP) (mo : Int) (r : MP × Int), eachD v m mo ns = some r → eachD v' m mo ns = some r
  | [], _, _, _, h => h
  | n :: ns, m, mo, r, h => by
    rw [eachD] at h ⊢
    obtain ⟨m1, h1, h2⟩ := Option.bind_eq_some_iff.1 h
    rw [hv _ _ _ h1]
    exact eachD_mono hv ns m1.1 _ r h2
theorem visitD_mono {l : List S36} : ∀ (k : Nat) (m : MP) (s : ByteArray) (r : MP × Int), visitD l k m s = some r → visitD l (k + 1) m s = some r
  | 0, _, _, _, h => by cases h
  | k + 1, m, s, r, h => by
    rw [visitD] at h ⊢
    split
    · rename_i e; rw [if_pos e] at h
      split
      · rename_i e2; rw [if_pos e2] at h; exact h
      · rename_i e2; rw [if_neg e2] at h
        obtain ⟨p, h1, h2⟩ := Option.bind_eq_some_iff.1 h
        rw [eachD_mono (fun m s r h => visitD_mono k m s r h) _ _ _ _ h1]
        exact h2
    · rename_i e; rw [if_neg e] at h; exact h
theorem findR_ok (l : List S36) (s : ByteArray) : (findR l s).2.2.2 = (findG l s).isSome := by
  unfold findR
  cases findG l s <;> rfl
theorem depth1 {A0 : Option Addr} {c0 : Nat} {l0 : List S36} {P : Nat → Prop} {BL BF BV b : Nat} (hl : l0.length ≤ 1000000) (hok : okGs l0 = true) : ∀ (k : Nat) (m : MP) (r : MP × Int) (s : ByteArray) (W : World),
    visitD l0 k m s = some r → okS s = true → r.1.length ≤ 1000000 → CEnv W 48 BL BF BV b A0 c0 l0 P → SM Tryz.prog 9 3 W b m.length m →
    Calls Tryz.prog 48 #[.string s, .pointer (some ⟨BL, 0, none⟩), .pointer (some ⟨BF, 0, none⟩), .pointer (some ⟨BV, 0, none⟩)] W fun e w' => e = .returned (.int .i64 r.2) ∧ SM Tryz.prog 9 3 w' b r.1.length r.1 ∧ W.grownBy w' (some b)
  | 0, _, _, _, _, h, _, _, _, _ => by cases h
  | k + 1, m, r, s, W, h, hs, hm', hE, hS => by
    have IH := depth1 (A0 := A0) (c0 := c0) (l0 := l0) (P := P) (BL := BL) (BF := BF) (BV := BV) (b := b) hl hok k
    have hcl := aK (group_find.calls (l0.length + 1) P A0 c0 l0 s (findR l0 s).1 (findR l0 s).2.1 (findR l0 s).2.2.1 (findR l0 s).2.2.2 W hE.g (find_is l0 s hl))
    rw [findR_subs, findR_ok] at hcl
    have hR := okGs_subs hok s
    rw [visitD] at h
    have HE := aK hE
    have HS := aK hS
    have hcL := hE.l
    have hcF := hE.f
    have hcV := hE.v
    have HH := aK (And.intro h (And.intro hR (And.intro hm' hs)))
    clear hE hS h hR hm' hs
    generalize subsG l0 s = ns at hcl HH
    generalize (findG l0 s).isSome = q4 at hcl HH
    generalize (findR l0 s).1 = q1 at hcl
    generalize (findR l0 s).2.1 = q2 at hcl
    go_enter Tryz.func48, Tryz.ntmps48
    go_wp2_with fail
    go_at_call 41
    refine hcl.out.mono ?_
    rintro e w1 ⟨v1, v2, rfl, hV1, hV2, hB⟩
    clear hcl
    obtain ⟨A1, c1, rfl⟩ := Kd.V_slice hV1
    obtain ⟨A2, c2, rfl⟩ := Kd.V_slice hV2
    have HG := aK (grown_of_below hB (some b))
    have HV := aK hV2
    have HM := aK (HS.out.below hB)
    have HLT := aK HS.out.lt
    have HB0 := aK hB.size
    have HE1 := aK (HE.out.grown (grown_of_below hB (some b)))
    clear hV1 hV2 hB HS hcL hcF hcV
    have hcL := HE1.out.l
    have hcF := HE1.out.f
    have hcV := HE1.out.v
    cases q4 with
    | false =>
      have h1 := HH.out.1
      rw [if_neg (by decide)] at h1
      obtain rfl := Option.some.inj h1
      clear h1 HH
      go_wp2_with (first
        | ((with_reducible refine gate_dst (N := 6) rfl ?_); refine box_event ?hg (N := 6) ?hd (cs := #[.string (⟨#[]⟩ : ByteArray), .slice none 0 0, .slice none 0 0]) (t := 36) ?hr ?_; (case hd => rfl); (case hg => rfl); (case hr => first | (go_simp; done) | (go_simp; rfl)); intro gb hg w9 hbox hb
           have n0_ := aK (Kd.V_below (Kd.V_elderB HV.out gb (Nat.le_of_eq hg.symm)) hb); have n1_ := aK (grown_below HG.out hb); have n2_ := aK hbox; have n3_ := aK (by rw [hg]; exact HB0.out : W.heap.size ≤ gb); have n4_ := aK (HM.out.below hb); have n5_ := aK (HE1.out.grown (grown_of_below hb (some b)))
           have hcz0 : w9.cell? ⟨gb, 0, none⟩ = some (.string (⟨#[]⟩ : ByteArray)) := (blk_cell hbox 0).trans rfl
           have hcz1 : w9.cell? ⟨gb, 1, none⟩ = some (.slice none 0 0) := (blk_cell hbox 1).trans rfl
           have hcz2 : w9.cell? ⟨gb, 2, none⟩ = some (.slice none 0 0) := (blk_cell hbox 2).trans rfl
           have hfz0 := blk_frozen hbox 0
           have hfz1 := blk_frozen hbox 1
           have hfz2 := blk_frozen hbox 2
           have hnF : BF ≠ gb := by have := HB0.out; have := World.block_lt_of_cell? W _ HE.out.f; simp only at this; omega
           have hnV : BV ≠ gb := by have := HB0.out; have := World.block_lt_of_cell? W _ HE.out.v; simp only at this; omega
           clear HV HG HM HE1 hcL hcF hcV hb hbox hg
           have HV := n0_; have HG := n1_; have BK := n2_; have GG := n3_; have HM := n4_; have HE1 := n5_; clear n0_ n1_ n2_ n3_ n4_ n5_
           have hcL := HE1.out.l
           have hcF := HE1.out.f
           have hcV := HE1.out.v))
      go_ret
      have hne : b ≠ gb := by have := GG.out; have := HLT.out; omega
      exact ⟨rfl, ((HM.out.far (a := ⟨gb, 0, none⟩) hne _).far (a := ⟨gb, 1, none⟩) hne _).far (a := ⟨gb, 2, none⟩) hne _, grown_set (grown_set (grown_set HG.out (a := ⟨gb, 0, none⟩) GG.out _) (a := ⟨gb, 1, none⟩) GG.out _) (a := ⟨gb, 2, none⟩) GG.out _⟩
    | true =>
      have h1 := HH.out.1
      rw [if_pos rfl] at h1
      by_cases hin : (mget m s).isSome = true
      · rw [if_pos hin] at h1
        obtain rfl := Option.some.inj h1
        have HX := aK HH.out.2.2.2
        clear h1 HH
        go_wp2_with (first
          | ((with_reducible refine gate_dst (N := 6) rfl ?_); refine box_event ?hg (N := 6) ?hd (cs := #[.string (⟨#[]⟩ : ByteArray), .slice none 0 0, .slice none 0 0]) (t := 36) ?hr ?_; (case hd => rfl); (case hg => rfl); (case hr => first | (go_simp; done) | (go_simp; rfl)); intro gb hg w9 hbox hb
             have n0_ := aK (Kd.V_below (Kd.V_elderB HV.out gb (Nat.le_of_eq hg.symm)) hb); have n1_ := aK (grown_below HG.out hb); have n2_ := aK hbox; have n3_ := aK (by rw [hg]; exact HB0.out : W.heap.size ≤ gb); have n4_ := aK (HM.out.below hb); have n5_ := aK (HE1.out.grown (grown_of_below hb (some b)))
             have hcz0 : w9.cell? ⟨gb, 0, none⟩ = some (.string (⟨#[]⟩ : ByteArray)) := (blk_cell hbox 0).trans rfl
             have hcz1 : w9.cell? ⟨gb, 1, none⟩ = some (.slice none 0 0) := (blk_cell hbox 1).trans rfl
             have hcz2 : w9.cell? ⟨gb, 2, none⟩ = some (.slice none 0 0) := (blk_cell hbox 2).trans rfl
             have hfz0 := blk_frozen hbox 0
             have hfz1 := blk_frozen hbox 1
             have hfz2 := blk_frozen hbox 2
             have hnF : BF ≠ gb := by have := HB0.out; have := World.block_lt_of_cell? W _ HE.out.f; simp only at this; omega
             have hnV : BV ≠ gb := by have := HB0.out; have := World.block_lt_of_cell? W _ HE.out.v; simp only at this; omega
             clear HV HG HM HE1 hcL hcF hcV hb hbox hg
             have HV := n0_; have HG := n1_; have BK := n2_; have GG := n3_; have HM := n4_; have HE1 := n5_; clear n0_ n1_ n2_ n3_ n4_ n5_
             have hcL := HE1.out.l
             have hcF := HE1.out.f
             have hcV := HE1.out.v)
          | (at_lookup
             have hne : b ≠ gb := by have := GG.out; have := HLT.out; omega
             obtain ⟨D, hD, hRp⟩ := ((HM.out.far (a := ⟨gb, 0, none⟩) hne _).far (a := ⟨gb, 1, none⟩) hne _).far (a := ⟨gb, 2, none⟩) hne _
             refine wpList_lookup_own_ok_int _ rfl _ _ 63 rfl 9 3 .i64 law9 Tryz.underlying63 Tryz.underlying3 (zero3 _) b m.length D rfl hD _ _ rfl (key_ok HX.out) ?_
             intro c hat hwc
             rw [(hRp s).1, hin]
             obtain rfl : (mget m s).getD 0 = c := by
               have h3 := (hRp s).2.symm.trans hat
               injection h3 with h3
               injection h3
             clear hat hwc hD hRp hne))
        go_ret
        have hne : b ≠ gb := by have := GG.out; have := HLT.out; omega
        exact ⟨rfl, ((HM.out.far (a := ⟨gb, 0, none⟩) hne _).far (a := ⟨gb, 1, none⟩) hne _).far (a := ⟨gb, 2, none⟩) hne _, grown_set (grown_set (grown_set HG.out (a := ⟨gb, 0, none⟩) GG.out _) (a := ⟨gb, 1, none⟩) GG.out _) (a := ⟨gb, 2, none⟩) GG.out _⟩
      · rw [if_neg hin] at h1
        obtain ⟨⟨m1, mo1⟩, h2, h3⟩ := Option.bind_eq_some_iff.1 h1
        dsimp only at h3
        split at h3
        case isFalse => cases h3
        rename_i hmo
        obtain rfl := Option.some.inj h3
        have hlen := HH.out.2.2.1
        have hX := HH.out.2.2.2
        dsimp only [mput] at hlen
        rw [List.length_cons] at hlen
        have hlen0 := eachD_len (fun m s r h => visitD_len k m s r h) _ _ _ _ h2
        have HL := aK (And.intro hlen (And.intro hlen0 hmo))
        have HX := aK hX
        have HN := aK HH.out.2.1
        have H2 := aK h2
        clear h1 h2 h3 HH hmo hlen hlen0 hX
        go_wp2_with (first
          | ((with_reducible refine gate_dst (N := 6) rfl ?_); refine box_event ?hg (N := 6) ?hd (cs := #[.string (⟨#[]⟩ : ByteArray), .slice none 0 0, .slice none 0 0]) (t := 36) ?hr ?_; (case hd => rfl); (case hg => rfl); (case hr => first | (go_simp; done) | (go_simp; rfl)); intro gb hg w9 hbox hb
             have n0_ := aK (Kd.V_below (Kd.V_elderB HV.out gb (Nat.le_of_eq hg.symm)) hb); have n1_ := aK (grown_below HG.out hb); have n2_ := aK hbox; have n3_ := aK (by rw [hg]; exact HB0.out : W.heap.size ≤ gb); have n4_ := aK (HM.out.below hb); have n5_ := aK (HE1.out.grown (grown_of_below hb (some b)))
             have hcz0 : w9.cell? ⟨gb, 0, none⟩ = some (.string (⟨#[]⟩ : ByteArray)) := (blk_cell hbox 0).trans rfl
             have hcz1 : w9.cell? ⟨gb, 1, none⟩ = some (.slice none 0 0) := (blk_cell hbox 1).trans rfl
             have hcz2 : w9.cell? ⟨gb, 2, none⟩ = some (.slice none 0 0) := (blk_cell hbox 2).trans rfl
             have hfz0 := blk_frozen hbox 0
             have hfz1 := blk_frozen hbox 1
             have hfz2 := blk_frozen hbox 2
             have hnF : BF ≠ gb := by have := HB0.out; have := World.block_lt_of_cell? W _ HE.out.f; simp only at this; omega
             have hnV : BV ≠ gb := by have := HB0.out; have := World.block_lt_of_cell? W _ HE.out.v; simp only at this; omega
             clear HV HG HM HE1 hcL hcF hcV hb hbox hg
             have HV := n0_; have HG := n1_; have BK := n2_; have GG := n3_; have HM := n4_; have HE1 := n5_; clear n0_ n1_ n2_ n3_ n4_ n5_
             have hcL := HE1.out.l
             have hcF := HE1.out.f
             have hcV := HE1.out.v)
          | (at_lookup
             have hne : b ≠ gb := by have := GG.out; have := HLT.out; omega
             obtain ⟨D, hD, hRp⟩ := ((HM.out.far (a := ⟨gb, 0, none⟩) hne _).far (a := ⟨gb, 1, none⟩) hne _).far (a := ⟨gb, 2, none⟩) hne _
             refine wpList_lookup_own_ok_int _ rfl _ _ 63 rfl 9 3 .i64 law9 Tryz.underlying63 Tryz.underlying3 (zero3 _) b m.length D rfl hD _ _ rfl (key_ok HX.out) ?_
             intro c hat hwc
             rw [(hRp s).1, show (mget m s).isSome = false from by simpa using hin]
             clear hat hwc hD hRp hne)
          | (at_mapUpdate
             have hne : b ≠ gb := by have := GG.out; have := HLT.out; omega
             obtain ⟨D, hD, hRp⟩ := ((HM.out.far (a := ⟨gb, 0, none⟩) hne _).far (a := ⟨gb, 1, none⟩) hne _).far (a := ⟨gb, 2, none⟩) hne _
             refine wpList_mapUpdate_own _ rfl _ _ _ 63 rfl 9 3 law9 Tryz.underlying63 _ b m.length D rfl hD (by have := HL.out; simp only [mput, List.length_cons] at this; unfold maxLen; omega) _ _ _ rfl rfl (key_ok HX.out) _ [] (val_ok (x := 0) rfl) ?_
             intro w2 hown2 hgrow2
             have hV3 := Kd.V_far (p := ⟨gb, 2, none⟩) (Kd.V_far (p := ⟨gb, 1, none⟩) (Kd.V_far (p := ⟨gb, 0, none⟩) HV.out (fun k hk => hk.2) (.string q1)) (fun k hk => hk.2) (.slice A1 q2.length c1)) (fun k hk => hk.2) (.slice A2 ns.length c2)
             have hE3 : CEnv (((w9.setCell ⟨gb, 0, none⟩ (.string q1)).setCell ⟨gb, 1, none⟩ (.slice A1 q2.length c1)).setCell ⟨gb, 2, none⟩ (.slice A2 ns.length c2)) 48 BL BF BV b A0 c0 l0 P := HE.out.grown (grown_set (grown_set (grown_set HG.out (a := ⟨gb, 0, none⟩) GG.out _) (a := ⟨gb, 1, none⟩) GG.out _) (a := ⟨gb, 2, none⟩) GG.out _)
             have n0_ := aK (show SM Tryz.prog 9 3 w2 b (mput m s 0).length (mput m s 0) from ⟨_, hown2, hRp.put hD.isMap s 0⟩)
             have n1_ := aK (World.grownBy.trans (grown_set (grown_set (grown_set HG.out (a := ⟨gb, 0, none⟩) GG.out _) (a := ⟨gb, 1, none⟩) GG.out _) (a := ⟨gb, 2, none⟩) GG.out _) hgrow2)
             have n2_ := aK (Kd.V_mono (Kd.V_grown hV3 hgrow2 (fun k hk e => by
               have e := Option.some.inj e
               rcases hk.1 with h | h
               · exact HE.out.np k h e
               · have := HLT.out; omega)) (ok' := fun k => k ≠ b) (fun k hk e => by
               rcases hk.1 with h | h
               · exact HE.out.np k h e
               · have := HLT.out; omega))
             have n3_ := aK (hE3.grown hgrow2)
             have BK3 : (((w9.setCell ⟨gb, 0, none⟩ (.string q1)).setCell ⟨gb, 1, none⟩ (.slice A1 q2.length c1)).setCell ⟨gb, 2, none⟩ (.slice A2 ns.length c2)).heap[gb]? = some (.cells #[.string q1, .slice A1 q2.length c1, .slice A2 ns.length c2] 36 (0, 0)) := by
               refine blk_put (cs := #[.string q1, .slice A1 q2.length c1, .slice none 0 0]) ?_ 2 _ rfl
               refine blk_put (cs := #[.string q1, .slice none 0 0, .slice none 0 0]) ?_ 1 _ rfl
               refine blk_put (cs := #[.string ⟨#[]⟩, .slice none 0 0, .slice none 0 0]) ?_ 0 _ rfl
               exact BK.out
             have hcz : w2.cell? ⟨gb, 2, none⟩ = some (.slice A2 ns.length c2) := cell_grown hgrow2 ((blk_cell BK3 2).trans rfl) (fun e => hne (Option.some.inj e).symm)
             clear HM HG HV HE1 hD hRp hown2 hgrow2 hcL hcF hcV hcz0 hcz1 hcz2 hfz0 hfz1 hfz2 BK BK3 hV3 hE3
             have HM := n0_; have HG := n1_; have HV := n2_; have HE1 := n3_; clear n0_ n1_ n2_ n3_
             have hcL := HE1.out.l
             have hcF := HE1.out.f
             have hcV := HE1.out.v))
        go_loopg [34, 10] ns.length (fun kq v34 v10 w' => ∃ (i : Nat) (mi : MP) (mo : Int), v34 = .int .i64 (i : Int) ∧ v10 = .int .i64 mo ∧ Aside0 (i ≤ ns.length ∧ ns.length - i ≤ kq) ∧ Aside0 (SM Tryz.prog 9 3 w' b mi.length mi) ∧ Aside0 (eachD (visitD l0 k) mi mo (ns.drop i) = some (m1, mo1)) ∧ Aside0 (W.grownBy w' (some b)) ∧ Aside0 (Kd.V Kd.string 9 w' W.heap.size (fun k_ => k_ ≠ b) (.slice A2 ns.length c2) ns))
        case atStart => exact ⟨0, mput m s 0, 0, rfl, rfl, ⟨Nat.zero_le _, by omega⟩, HM, ⟨by rw [List.drop_zero]; exact H2.out⟩, HG, HV⟩
        case round =>
          obtain ⟨i, mi, mo, rfl, rfl, HK, HM, HC, HG, HV⟩ := hrel
          clear hcz hcL hcF hcV
          have HE1 := aK (HE.out.grown HG.out)
          have hcL := HE1.out.l
          have hcF := HE1.out.f
          have hcV := HE1.out.v
          by_cases hlt : i < ns.length
          · cases gk with
            | zero => exfalso; have := HK.out; omega
            | succ k1 =>
              have c1 : decide ((i : Int) < (ns.length : Int)) = true := decide_eq_true (by omega)
              obtain ⟨ad, e, hx⟩ := Kd.at_string (Kd.V_reads' HV.out).2.2 (i : Int) (by omega) (by omega)
              subst e
              rw [Int.toNat_natCast, show rdOf ByteArray.empty ns (i : Int) = ns[i] from by simp [rdOf, List.getD_eq_getElem?_getD, List.getElem?_eq_getElem hlt]] at hx
              have p : (0 ≤ (i : Int)) = True := eq_true (by omega)
              have q : ((i : Int) < (ns.length : Int)) = True := eq_true (by omega)
              have HX2 := aK (HN.out ns[i] (List.getElem_mem _))
              have hC := HC.out
              rw [List.drop_eq_getElem_cons hlt, eachD] at hC
              generalize ns[i] = x at hx HX2 hC
              obtain ⟨p2, h1, h2⟩ := Option.bind_eq_some_iff.1 hC
              have hlen1 : p2.1.length ≤ m1.length := eachD_len (fun m s r h => visitD_len k m s r h) _ _ _ _ h2
              have HI := aK (And.intro h1 (And.intro h2 (show p2.1.length ≤ 1000000 from by have := HL.out.1; omega)))
              clear h1 h2 hC HC hlen1
              go_wp2_with (first
                | (go_at_call 48
                   refine (IH _ p2 x _ HI.out.1 HX2.out HI.out.2.2 HE1.out HM.out).mono ?_
                   rintro e w3 ⟨rfl, hM3, hg3⟩
                   have n0_ := aK hM3
                   have n1_ := aK (World.grownBy.trans HG.out hg3)
                   have n2_ := aK (Kd.V_grown HV.out hg3 (fun k hk e => hk (Option.some.inj e)))
                   clear HM HG HV HE1 hM3 hg3 hcL hcF hcV
                   have HM := n0_; have HG := n1_; have HV := n2_; clear n0_ n1_ n2_))
              all_goals
                go_roundg k1
                case measure => omega
                case rel => exact ⟨i + 1, p2.1, mx mo p2.2, by rw [w_inc2_ i (by have := (Kd.V_reads' HV.out).2.2.2.1; omega)], by first | rfl | (rw [show mx mo p2.2 = max mo p2.2 from by unfold mx; omega]; done) | (unfold mx; congr 1; omega), ⟨by omega, by have := HK.out; omega⟩, HM, ⟨HI.out.2.1⟩, HG, HV⟩
          · have hi : i = ns.length := by have := HK.out; omega
            have c1 : decide ((i : Int) < (ns.length : Int)) = false := decide_eq_false (by omega)
            have h1 := HC.out
            rw [List.drop_of_length_le (by omega), eachD] at h1
            obtain ⟨rfl, rfl⟩ := Prod.mk.inj (Option.some.inj h1)
            have hw : wrap64 (mo + 1) = mo + 1 := by have := HL.out.2.2; unfold wrap64; omega
            go_wp2_with (first
              | (at_mapUpdate
                 obtain ⟨D, hD, hRp⟩ := HM.out
                 refine wpList_mapUpdate_own _ rfl _ _ _ 63 rfl 9 3 law9 Tryz.underlying63 _ b mi.length D rfl hD (by have := HL.out; unfold maxLen; omega) _ _ _ rfl rfl (key_ok HX.out) _ [] (val_ok (x := wrap64 (mo + 1)) (by rw [hw]; have := HL.out.2.2; simp [okI]; omega)) ?_
                 intro w2 hown2 hgrow2
                 have n0_ := aK (show SM Tryz.prog 9 3 w2 b (mput mi s (mo + 1)).length (mput mi s (mo + 1)) from by have h9 := hRp.put hD.isMap s (wrap64 (mo + 1)); rw [hw] at h9 hown2; exact ⟨_, hown2, h9⟩)
                 have n1_ := aK (World.grownBy.trans HG.out hgrow2)
                 clear HM HG hD hRp hown2 hgrow2
                 have HM := n0_; have HG := n1_; clear n0_ n1_))
            go_ret
            exact ⟨rfl, HM.out, HG.out⟩
def group_Depth.f (k : Nat) (l0 : List S36) (a1 : ByteArray) : Option Int := if (l0.length ≤ 1000000 ∧ okGs l0 = true) ∧ okS a1 = true then (visitD l0 k [] a1).bind fun p => if p.1.length ≤ 1000000 then some p.2 else none else none
theorem group_Depth.mono : ∀ a0 a1 k, LeO (group_Depth.f k a0 a1) (group_Depth.f (k + 1) a0 a1) := by
  intro a0 a1 k
  unfold group_Depth.f
  refine LeO.ite ?_ (LeO.refl _)
  exact LeO.bind (fun r h => visitD_mono k _ _ r h) (fun _ => LeO.refl _)
theorem group_Depth.calls (k : Nat) (A0 : Option Addr) (c0 : Nat) (l0 : List (S36)) (a1 : ByteArray) (r : Int) (w : World) (ab : Kd.C k36 w A0 l0.length l0) (ac : l0.length ≤ c0) (h : group_Depth.f k l0 a1 = some r) :
    Calls Tryz.prog 21 #[.slice A0 l0.length c0, .string a1] w fun e w' => e = .returned (.int .i64 r) ∧ Below w.heap.size w w' := by
  unfold group_Depth.f at h
  split at h
  case isFalse => cases h
  rename_i hh
  obtain ⟨m1, h1, h2⟩ := Option.bind_eq_some_iff.1 h
  split at h2
  case isFalse => cases h2
  rename_i hlen
  obtain rfl := Option.some.inj h2
  have HH := aK (And.intro hh (And.intro h1 hlen))
  have HV := aK (Kd.V_mk (e := 36) (base := 0) ac (Kd.C_F k36_heap ab))
  clear h h1 h2 hh hlen ab ac
  have hmm := @run_makeMap Tryz.prog
  go_enter Tryz.func21, Tryz.ntmps21
  go_wp2_with fail
  go_at_call 48
  generalize hW : ((((w.alloc _).alloc _).alloc _).alloc _) = W
  have aa : Below w.heap.size w W := by rw [← hW]; exact below_alloc (below_alloc (below_alloc (below_alloc (Below.refl _ _) _) _) _) _
  have hsz : W.heap.size = w.heap.size + 1 + 1 + 1 + 1 := by rw [← hW]; simp
  have hcL : W.cell? ⟨w.heap.size, 0, none⟩ = some (.slice A0 l0.length c0) := by
    rw [← hW, World.cell?_alloc_lt _ _ _ (by simp; omega), World.cell?_alloc_lt _ _ _ (by simp; omega), World.cell?_alloc_lt _ _ _ (by simp)]
    simp
  have hcF : W.cell? ⟨w.heap.size + 1 + 1, 0, none⟩ = some (.map (some (w.heap.size + 1))) := by
    rw [← hW, World.cell?_alloc_lt _ _ _ (by simp)]
    exact cell_new_ _ _ _ _ (by simp)
  have hcV : W.cell? ⟨w.heap.size + 1 + 1 + 1, 0, none⟩ = some (.func (.func 48) #[] #[.pointer (some ⟨w.heap.size, 0, none⟩), .pointer (some ⟨w.heap.size + 1 + 1, 0, none⟩), .pointer (some ⟨w.heap.size + 1 + 1 + 1, 0, none⟩)]) := by
    rw [← hW]
    exact cell_new_ _ _ _ _ (by simp)
  have hS : SM Tryz.prog 9 3 W (w.heap.size + 1) 0 [] := by
    have h1 := SM.made (P := Tryz.prog) (ks := 9) (es := 3) (w.alloc (Obj.cells #[Value.slice A0 l0.length c0] 22))
    rw [show (w.alloc (Obj.cells #[Value.slice A0 l0.length c0] 22)).heap.size = w.heap.size + 1 by simp] at h1
    rw [← hW]
    exact h1.below (below_alloc (below_alloc (Below.refl _ _) _) _)
  have hE : CEnv W 48 w.heap.size (w.heap.size + 1 + 1) (w.heap.size + 1 + 1 + 1) (w.heap.size + 1) A0 c0 l0 (fun k => k < w.heap.size) :=
    ⟨hcL, hcF, hcV, Kd.V_below HV.out aa, by omega, by omega, by omega, fun k hk => by omega⟩
  refine (depth1 HH.out.1.1.1 HH.out.1.1.2 k [] m1 a1 W HH.out.2.1 HH.out.1.2 HH.out.2.2 hE hS).mono ?_
  rintro e w5 ⟨rfl, hM, hg⟩
  have HB := aK (aa.grown hg aa.size (fun k hk => by cases hk; omega))
  clear hM hg hE hS hcL hcF hcV hsz aa hW
  go_wp2
  go_ret
  exact ⟨rfl, HB.out⟩

/-! ### slices_Index_int_int: function 65 -/
def slices_Index_int_int.l0 : Nat → List Int → Int → Int → Int → Option (Int)
|0,_,_,_,_ => none
|k + 1,x0,x1,x7,x8 => if x8 < x7 then (if 0 ≤ x8 then (if x8 < (x0.length : Int) then (if x1 = (rd x0 x8) then (some x8) else (slices_Index_int_int.l0 k x0 x1 x7 (wrap64 (x8 + 1)))) else (none)) else (none)) else (some (-1))
def slices_Index_int_int.f (k : Nat) (l0 : List Int) (a1 : Int) : Option (Int) := slices_Index_int_int.l0 k l0 a1 (l0.length : Int) 0
theorem slices_Index_int_int.mono_l : ∀ k, (∀ y0 y1 y2 y3, LeO (slices_Index_int_int.l0 k y0 y1 y2 y3) (slices_Index_int_int.l0 (k + 1) y0 y1 y2 y3))
|0 => fun _ _ _ _ r h => by simp [slices_Index_int_int.l0] at h
|k + 1 => by
  have ih0 := slices_Index_int_int.mono_l k
  ·intro y0 y1 y2 y3
   unfold slices_Index_int_int.l0
   repeat' (with_reducible first|exact ih0 _ _ _ _|exact LeO.refl _|exact LeO.none _|refine LeO.ite ?_ ?_|refine LeO.bind ?_ (fun _ => ?_))
theorem slices_Index_int_int.mono : ∀ a0 a1 k, LeO (slices_Index_int_int.f k a0 a1) (slices_Index_int_int.f (k + 1) a0 a1) := by
 intro a0 a1 k
 have ih0 := slices_Index_int_int.mono_l k
 unfold slices_Index_int_int.f
 repeat' (with_reducible first|exact ih0 _ _ _ _|exact LeO.refl _|exact LeO.none _|refine LeO.ite ?_ ?_|refine LeO.bind ?_ (fun _ => ?_))
theorem slices_Index_int_int.calls (k : Nat) (A0 : Option Addr) (c0 : Nat) (l0 : List Int) (a1 : Int) (r : Int) (w : World) (aj : Kd.C (Kd.int .i64) w A0 l0.length l0) (ak : l0.length ≤ c0) (h : slices_Index_int_int.f k l0 a1 = some r) :
  Calls Tryz.prog 65 #[.slice A0 l0.length c0,.int .i64 a1] w fun e w' => e = .returned (.int .i64 r) ∧ Drawn0 w w' := by
 have al := aK aj
 have ap := aK ak
 clear aj ak
 have H : (slices_Index_int_int.l0 k l0 a1 (l0.length : Int) 0) = some r := h
 clear h
 have H' := aK H
 clear H
 go_enter Tryz.func65,Tryz.ntmps65
 go_wp2
 go_loopg [8] k (fun kq v8 w' => ∃ (aa : Int),v8 = .int .i64 aa ∧ Aside0 (slices_Index_int_int.l0 kq l0 a1 (l0.length : Int) aa = some r) ∧ Aside0 (kq ≤ k) ∧ Drawn0 w w')
 case atStart => exact ⟨(0),(by first|rfl|(simp;done)|(simp [*];done)),H',⟨Nat.le_refl _⟩,by repeat (first|exact Drawn0.refl _|apply Drawn0.step)⟩
 case round =>
  clear H'
  try clear p2
  obtain ⟨aa,rfl,HA,am,⟨m1,rfl⟩⟩ := hrel
  cases gk with
 |zero => exact absurd HA.out (by simp [slices_Index_int_int.l0])
 |succ k1 =>
   have H := HA.out
   clear HA
   simp only [slices_Index_int_int.l0] at H
   by_cases c3 : aa < (l0.length : Int)
   ·rw [if_pos c3] at H
    have ag := decide_eq_true c3
    clear c3
    obtain ⟨c4,H⟩ := iS H
    have an := decide_eq_true c4
    clear c4
    obtain ⟨c5,H⟩ := iS H
    have ao := decide_eq_true c5
    clear c5
    by_cases c6 : a1 = (rd l0 aa)
    ·rw [if_pos c6] at H
     have ah := beq_iff_eq.mpr c6
     have ai := bne_eq_false_iff_eq.mpr c6
     clear c6
     obtain rfl := Option.some.inj H
     have ab : 0 ≤ (aa : Int) := dA
     have ac : aa < (l0.length : Int) := dA
     obtain ⟨af,ae,ad⟩ := Kd.at_int al.out aa ab ac
     cases ae
     replace ab := eq_true ab
     replace ac := eq_true ac
     go_wp2
     go_ret
     exact ⟨by first|rfl|(simp;done)|(simp [*];done),by repeat (first|exact Drawn0.refl _|apply Drawn0.step)⟩
    ·rw [if_neg c6] at H
     have ah := beq_eq_false_iff_ne.mpr c6
     have ai := bne_iff_ne.mpr c6
     have H' := aK H
     clear H
     have ab : 0 ≤ (aa : Int) := dA
     have ac : aa < (l0.length : Int) := dA
     obtain ⟨af,ae,ad⟩ := Kd.at_int al.out aa ab ac
     cases ae
     replace ab := eq_true ab
     replace ac := eq_true ac
     go_wp2
     go_roundg k1
     case measure => have := am.out;omega
     case rel => exact ⟨(wrap64 (aa + 1)),(by first|rfl|(simp;done)|(simp [*];done)),H',⟨by have := am.out;omega⟩,by repeat (first|exact Drawn0.refl _|apply Drawn0.step)⟩
   ·rw [if_neg c3] at H
    have ag := decide_eq_false c3
    clear c3
    obtain rfl := Option.some.inj H
    go_wp2
    go_ret
    exact ⟨by first|rfl|(simp;done)|(simp [*];done),by repeat (first|exact Drawn0.refl _|apply Drawn0.step)⟩

/-! ### slices_Contains_int_int: function 47 -/
def slices_Contains_int_int.f (k : Nat) (l0 : List Int) (a1 : Int) : Option (Bool) := (slices_Index_int_int.f k l0 a1).bind fun aa => (some (decide (aa ≥ 0)))
theorem slices_Contains_int_int.mono : ∀ a0 a1 k, LeO (slices_Contains_int_int.f k a0 a1) (slices_Contains_int_int.f (k + 1) a0 a1) := by
 intro a0 a1 k
 unfold slices_Contains_int_int.f
 repeat' (with_reducible first|exact slices_Index_int_int.mono _ _ _|exact LeO.refl _|exact LeO.none _|refine LeO.ite ?_ ?_|refine LeO.bind ?_ (fun _ => ?_))
theorem slices_Contains_int_int.calls (k : Nat) (A0 : Option Addr) (c0 : Nat) (l0 : List Int) (a1 : Int) (r : Bool) (w : World) (ad : Kd.C (Kd.int .i64) w A0 l0.length l0) (ae : l0.length ≤ c0) (h : slices_Contains_int_int.f k l0 a1 = some r) :
  Calls Tryz.prog 47 #[.slice A0 l0.length c0,.int .i64 a1] w fun e w' => e = .returned (.bool r) ∧ Drawn0 w w' := by
 have ag := aK ad
 have ah := aK ae
 clear ad ae
 have H : ((slices_Index_int_int.f k l0 a1).bind fun aa => (some (decide (aa ≥ 0)))) = some r := h
 clear h
 replace H := Option.bind_eq_some_iff.mp H
 obtain ⟨aa,af,H⟩ := H
 have A3 := aK af
 clear af
 obtain rfl := Option.some.inj H
 go_enter Tryz.func47,Tryz.ntmps47
 go_wp2_with (first|((with_reducible refine gate_callee (f := 65) rfl ?_);refine gL 7 Tryz.func65 #[.slice A0 l0.length c0,.int .i64 a1] ?_;(with_reducible refine (slices_Index_int_int.calls k _ _ l0 a1 aa _ ?ab ?ac A3.out).mono ?_);(case ab => exact cM ag.out);(case ac => exact ah.out);rintro e w' ⟨rfl,⟨nd,rfl⟩⟩;refine ⟨_,rfl,?_⟩))
 go_ret
 exact ⟨by first|rfl|(simp;done)|(simp [*];done),by repeat (first|exact Drawn0.refl _|apply Drawn0.step)⟩

/-! ### slices_Index_string_string: function 66 -/
def slices_Index_string_string.l0 : Nat → List ByteArray → ByteArray → Int → Int → Option (Int)
|0,_,_,_,_ => none
|k + 1,x0,x1,x7,x8 => if x8 < x7 then (if 0 ≤ x8 then (if x8 < (x0.length : Int) then (if x1.toList = (rdOf ByteArray.empty x0 x8).toList then (some x8) else (slices_Index_string_string.l0 k x0 x1 x7 (wrap64 (x8 + 1)))) else (none)) else (none)) else (some (-1))
def slices_Index_string_string.f (k : Nat) (l0 : List ByteArray) (a1 : ByteArray) : Option (Int) := slices_Index_string_string.l0 k l0 a1 (l0.length : Int) 0
theorem slices_Index_string_string.mono_l : ∀ k, (∀ y0 y1 y2 y3, LeO (slices_Index_string_string.l0 k y0 y1 y2 y3) (slices_Index_string_string.l0 (k + 1) y0 y1 y2 y3))
|0 => fun _ _ _ _ r h => by simp [slices_Index_string_string.l0] at h
|k + 1 => by
  have ih0 := slices_Index_string_string.mono_l k
  ·intro y0 y1 y2 y3
   unfold slices_Index_string_string.l0
   repeat' (with_reducible first|exact ih0 _ _ _ _|exact LeO.refl _|exact LeO.none _|refine LeO.ite ?_ ?_|refine LeO.bind ?_ (fun _ => ?_))
theorem slices_Index_string_string.mono : ∀ a0 a1 k, LeO (slices_Index_string_string.f k a0 a1) (slices_Index_string_string.f (k + 1) a0 a1) := by
 intro a0 a1 k
 have ih0 := slices_Index_string_string.mono_l k
 unfold slices_Index_string_string.f
 repeat' (with_reducible first|exact ih0 _ _ _ _|exact LeO.refl _|exact LeO.none _|refine LeO.ite ?_ ?_|refine LeO.bind ?_ (fun _ => ?_))
theorem slices_Index_string_string.calls (k : Nat) (A0 : Option Addr) (c0 : Nat) (l0 : List ByteArray) (a1 : ByteArray) (r : Int) (w : World) (aj : Kd.C Kd.string w A0 l0.length l0) (ak : l0.length ≤ c0) (h : slices_Index_string_string.f k l0 a1 = some r) :
  Calls Tryz.prog 66 #[.slice A0 l0.length c0,.string a1] w fun e w' => e = .returned (.int .i64 r) ∧ Drawn0 w w' := by
 have al := aK aj
 have ap := aK ak
 clear aj ak
 have H : (slices_Index_string_string.l0 k l0 a1 (l0.length : Int) 0) = some r := h
 clear h
 have H' := aK H
 clear H
 go_enter Tryz.func66,Tryz.ntmps66
 go_wp2
 go_loopg [8] k (fun kq v8 w' => ∃ (aa : Int),v8 = .int .i64 aa ∧ Aside0 (slices_Index_string_string.l0 kq l0 a1 (l0.length : Int) aa = some r) ∧ Aside0 (kq ≤ k) ∧ Drawn0 w w')
 case atStart => exact ⟨(0),(by first|rfl|(simp;done)|(simp [*];done)),H',⟨Nat.le_refl _⟩,by repeat (first|exact Drawn0.refl _|apply Drawn0.step)⟩
 case round =>
  clear H'
  try clear p2
  obtain ⟨aa,rfl,HA,am,⟨m1,rfl⟩⟩ := hrel
  cases gk with
 |zero => exact absurd HA.out (by simp [slices_Index_string_string.l0])
 |succ k1 =>
   have H := HA.out
   clear HA
   simp only [slices_Index_string_string.l0] at H
   by_cases c3 : aa < (l0.length : Int)
   ·rw [if_pos c3] at H
    have ag := decide_eq_true c3
    clear c3
    obtain ⟨c4,H⟩ := iS H
    have an := decide_eq_true c4
    clear c4
    obtain ⟨c5,H⟩ := iS H
    have ao := decide_eq_true c5
    clear c5
    by_cases c6 : a1.toList = (rdOf ByteArray.empty l0 aa).toList
    ·rw [if_pos c6] at H
     have ah := beq_iff_eq.mpr c6
     have ai := bne_eq_false_iff_eq.mpr c6
     clear c6
     obtain rfl := Option.some.inj H
     have ab : 0 ≤ (aa : Int) := dA
     have ac : aa < (l0.length : Int) := dA
     obtain ⟨af,ae,ad⟩ := Kd.at_string al.out aa ab ac
     cases ae
     replace ab := eq_true ab
     replace ac := eq_true ac
     go_wp2
     go_ret
     exact ⟨by first|rfl|(simp;done)|(simp [*];done),by repeat (first|exact Drawn0.refl _|apply Drawn0.step)⟩
    ·rw [if_neg c6] at H
     have ah := beq_eq_false_iff_ne.mpr c6
     have ai := bne_iff_ne.mpr c6
     have H' := aK H
     clear H
     have ab : 0 ≤ (aa : Int) := dA
     have ac : aa < (l0.length : Int) := dA
     obtain ⟨af,ae,ad⟩ := Kd.at_string al.out aa ab ac
     cases ae
     replace ab := eq_true ab
     replace ac := eq_true ac
     go_wp2
     go_roundg k1
     case measure => have := am.out;omega
     case rel => exact ⟨(wrap64 (aa + 1)),(by first|rfl|(simp;done)|(simp [*];done)),H',⟨by have := am.out;omega⟩,by repeat (first|exact Drawn0.refl _|apply Drawn0.step)⟩
   ·rw [if_neg c3] at H
    have ag := decide_eq_false c3
    clear c3
    obtain rfl := Option.some.inj H
    go_wp2
    go_ret
    exact ⟨by first|rfl|(simp;done)|(simp [*];done),by repeat (first|exact Drawn0.refl _|apply Drawn0.step)⟩

/-! ### slices_Contains_string_string: function 52 -/
def slices_Contains_string_string.f (k : Nat) (l0 : List ByteArray) (a1 : ByteArray) : Option (Bool) := (slices_Index_string_string.f k l0 a1).bind fun aa => (some (decide (aa ≥ 0)))
theorem slices_Contains_string_string.mono : ∀ a0 a1 k, LeO (slices_Contains_string_string.f k a0 a1) (slices_Contains_string_string.f (k + 1) a0 a1) := by
 intro a0 a1 k
 unfold slices_Contains_string_string.f
 repeat' (with_reducible first|exact slices_Index_string_string.mono _ _ _|exact LeO.refl _|exact LeO.none _|refine LeO.ite ?_ ?_|refine LeO.bind ?_ (fun _ => ?_))
theorem slices_Contains_string_string.calls (k : Nat) (A0 : Option Addr) (c0 : Nat) (l0 : List ByteArray) (a1 : ByteArray) (r : Bool) (w : World) (ad : Kd.C Kd.string w A0 l0.length l0) (ae : l0.length ≤ c0) (h : slices_Contains_string_string.f k l0 a1 = some r) :
  Calls Tryz.prog 52 #[.slice A0 l0.length c0,.string a1] w fun e w' => e = .returned (.bool r) ∧ Drawn0 w w' := by
 have ag := aK ad
 have ah := aK ae
 clear ad ae
 have H : ((slices_Index_string_string.f k l0 a1).bind fun aa => (some (decide (aa ≥ 0)))) = some r := h
 clear h
 replace H := Option.bind_eq_some_iff.mp H
 obtain ⟨aa,af,H⟩ := H
 have A3 := aK af
 clear af
 obtain rfl := Option.some.inj H
 go_enter Tryz.func52,Tryz.ntmps52
 go_wp2_with (first|((with_reducible refine gate_callee (f := 66) rfl ?_);refine gL 7 Tryz.func66 #[.slice A0 l0.length c0,.string a1] ?_;(with_reducible refine (slices_Index_string_string.calls k _ _ l0 a1 aa _ ?ab ?ac A3.out).mono ?_);(case ab => exact cM ag.out);(case ac => exact ah.out);rintro e w' ⟨rfl,⟨nd,rfl⟩⟩;refine ⟨_,rfl,?_⟩))
 go_ret
 exact ⟨by first|rfl|(simp;done)|(simp [*];done),by repeat (first|exact Drawn0.refl _|apply Drawn0.step)⟩

/-! ### strings_Index: function 69 (by hand) -/
def strings_Index.f (a0 a1 : ByteArray) : Option Int := if a1.size = 1 then some (Lib.indexByte a0.data.toList (a1.data.toList.headD 0)) else none
theorem strings_Index.calls (a0 : ByteArray) (a1 : ByteArray) (r : Int) (w : World) (h : strings_Index.f a0 a1 = some r) :
    Calls Tryz.prog 69 #[.string a0, .string a1] w fun e w' => e = .returned (.int .i64 r) ∧ Drawn0 w w' := by
  unfold strings_Index.f at h
  split at h
  case isFalse => cases h
  rename_i h1
  obtain rfl := Option.some.inj h
  have e := one_byte_ a1 h1
  have hc := Tryz.strings_Index_one a0 (a1.data.toList.headD 0) w
  rw [← e] at hc
  refine hc.mono ?_
  rintro e w' ⟨rfl, rfl⟩
  exact ⟨rfl, Drawn0.refl _⟩

/-! ### strings_explode: function 105 (by hand) -/
/-- Not reached: what is split is not split at nothing. -/
def strings_explode.f (aa : ByteArray) (ab : Int) : Option (List ByteArray) := none
theorem strings_explode.calls (a0 : ByteArray) (a1 : Int) (r : List ByteArray) (w : World) (h : strings_explode.f a0 a1 = some r) :
    Calls Tryz.prog 105 #[.string a0, .int .i64 a1] w fun e w' => ∃ aa : Value, e = .returned (aa) ∧ Kd.R Kd.string 9 w' w.heap.size (fun _ => True) aa r ∧ Below w.heap.size w w' := by
  cases h

/-! ### strings_Count: function 106 (by hand) -/
def strings_Count.f (a0 a1 : ByteArray) : Option Int := if a1.size = 1 then some (Lib.countByte a0.data.toList (a1.data.toList.headD 0)) else none
theorem strings_Count.calls (a0 : ByteArray) (a1 : ByteArray) (r : Int) (w : World) (h : strings_Count.f a0 a1 = some r) :
    Calls Tryz.prog 106 #[.string a0, .string a1] w fun e w' => e = .returned (.int .i64 r) ∧ Drawn0 w w' := by
  unfold strings_Count.f at h
  split at h
  case isFalse => cases h
  rename_i h1
  obtain rfl := Option.some.inj h
  have e := one_byte_ a1 h1
  have hc := Tryz.strings_Count_one a0 (a1.data.toList.headD 0) w
  rw [← e] at hc
  refine hc.mono ?_
  rintro e w' ⟨rfl, rfl⟩
  exact ⟨rfl, Drawn0.refl _⟩

end Go.Proofs.YtobdkgoapcbipaaGreatDoor.J
