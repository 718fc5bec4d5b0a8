import Derived.Test.YtgadbpljlpclnaaGreatDoorHx0
import Derived.Test.YtgadbpljlpclnaaGreatDoorHx8
import Derived.Test.YtgadbpljlpclnaaGreatDoorHx11
namespace Go.Proofs.YtgadbpljlpclnaaGreatDoor.H
open Go.RowKit Go.Proofs.YtgadbpljlpclnaaGreatDoorW.PrintWords Go.Proofs.YtgadbpljlpclnaaGreatDoorW.PrintLast Go.Proofs.YtgadbpljlpclnaaGreatDoorW.PrintMore
set_option maxHeartbeats 4000000
set_option maxRecDepth 100000
attribute [local go_sem] max2_int min2_int max_two min_two max_three min_three max_four min_four
set_option linter.unusedVariables false
set_option linter.unusedSimpArgs false

/-! ### tree_paths: function 67 (by hand) -/
open Go.Maps
theorem keyOf_str {x : ByteArray} {kl : Lit} (h : keyOf Tryz.prog 9 (.string x) = some kl) : kl = kS x := by
  simp [keyOf, Tryz.underlying9, mapKey] at h
  exact h.2.symm
theorem keyOf_str_ok {x : ByteArray} {kl : Lit} (h : keyOf Tryz.prog 9 (.string x) = some kl) : x.size ≤ maxLen := by
  simp [keyOf, Tryz.underlying9, mapKey] at h
  exact h.1
theorem mget_mem (m : MP) (s : ByteArray) : (mget m s).isSome = true ↔ s ∈ m.map Prod.fst := by
  induction m with
  | nil => simp [mget]
  | cons p m ih =>
    rw [mget]
    by_cases h : p.1 = s
    · simp [h]
    · rw [if_neg h, ih]; simp [Ne.symm h]
theorem sameKey_str (s t : ByteArray) : (kS s).sameKey (kS t) = decide (s = t) := by
  by_cases h : s = t
  · subst h; simp [kS, Lit.sameKey]
  · rw [decide_eq_false h]
    exact sameKey_ne (fun e => h (kS_inj e))
/-- All keys of the maps, in increasing order. -/
def pathsM (ms : List MP) : List ByteArray := uniqS (ms.flatMap fun m => m.map Prod.fst)
theorem mem_pathsM (ms : List MP) (s : ByteArray) : s ∈ pathsM ms ↔ ∃ m ∈ ms, (mget m s).isSome = true := by
  rw [pathsM, mem_uniqS, List.mem_flatMap]
  constructor
  · rintro ⟨m, h1, h2⟩; exact ⟨m, h1, (mget_mem m s).2 h2⟩
  · rintro ⟨m, h1, h2⟩; exact ⟨m, h1, (mget_mem m s).1 h2⟩
/-- The maps bs stand in the cells from 0 on of block G. -/
def MapsAt (w : World) (G : Nat) (bs : List (Nat × MP)) : Prop := ∀ j (h : j < bs.length), w.cell? ⟨G, j, none⟩ = some (.map (some (bs[j]).1)) ∧ SM Tryz.prog 9 3 w (bs[j]).1 1000000 (bs[j]).2
theorem tree_paths.calls_ (G c : Nat) (bs : List (Nat × MP)) (w : World) (hG : G < w.heap.size) (hr : MapsAt w G bs) (hn : bs.length ≤ 10) :
    Calls Tryz.prog 67 #[.slice (some ⟨G, 0, none⟩) bs.length c] w fun e w' => ∃ v, e = .returned v ∧ Kd.R Kd.string 9 w' w.heap.size (fun _ => True) v (pathsM (bs.map Prod.snd)) ∧ Below w.heap.size w w' := by
  have info9 : (Tryz.prog.info? 9).map (fun i => (i.zero, i.size, i.bytes)) = some (some (.string ⟨#[]⟩), 1, 16) := by kernel_rfl
  have HI := aK info9
  have HR := aK (And.intro hr (And.intro hG hn))
  clear hr hG hn info9
  go_enter Tryz.func67, Tryz.ntmps67
  go_wp2
  go_loopg [3, 9] bs.length (fun kq v3 v9 w' => ∃ (i : Nat) (out : List ByteArray), v9 = .int .i64 (i : Int) ∧ Aside0 (i ≤ bs.length ∧ bs.length - i ≤ kq) ∧ Aside0 (∀ s, s ∈ out ↔ ∃ j, ∃ h : j < bs.length, j < i ∧ (mget (bs[j]).2 s).isSome = true) ∧ Aside0 (out.length ≤ i * 1000000) ∧ Aside0 (Kd.R Kd.string 9 w' w.heap.size (fun _ => True) v3 out) ∧ Aside0 (Below w.heap.size w w'))
  case atStart => exact ⟨0, [], rfl, ⟨Nat.zero_le _, by omega⟩, ⟨fun s => by simp⟩, ⟨by simp⟩, ⟨Kd.R_nil _ _ _ _ _⟩, ⟨Below.refl _ _⟩⟩
  case round =>
    obtain ⟨i, out, rfl, HK, HM, HL, HO, HB⟩ := hrel
    by_cases hlt : i < bs.length
    · cases gk with
      | zero => exfalso; have := HK.out; omega
      | succ k1 =>
        have c1 : decide ((i : Int) < (bs.length : Int)) = true := decide_eq_true (by omega)
        obtain ⟨hx, hsm⟩ := HR.out.1 i hlt
        have hbl := hsm.lt
        replace hx := (HB.out.cell (World.block_lt_of_cell? w _ hx)).trans hx
        replace hsm := hsm.below HB.out
        have p : (0 ≤ (i : Int)) = True := eq_true (by omega)
        have q : ((i : Int) < (bs.length : Int)) = True := eq_true (by omega)
        generalize hb : (bs[i]).1 = b at hx hsm hbl
        generalize hmm : (bs[i]).2 = m at hsm
        obtain ⟨D, hD, hRp⟩ := hsm
        have HD := aK (And.intro hD hRp)
        have HE := aK hmm
        have HBL := aK hbl
        clear hD hRp hmm hb hbl
        go_wp2_with (first
          | (at_range; refine wpList_range_own _ rfl _ 77 rfl 9 3 law9 Tryz.underlying77 _ b 1000000 D rfl HD.out.1 ?_; intro w0 hrg0 hg0 hs0))
        have HRG := aK hrg0
        have HSZ := aK (And.intro hs0 (And.intro HD.out.1.lt HD.out.1.size_le))
        have n0_ := aK (Kd.R_mono (Kd.R_grown (Kd.R_bound HO.out) hg0 (fun k _ => by simp)) (ok' := fun k => k ≠ wr.heap.size) (fun k hk => Nat.ne_of_lt hk.2.2.1))
        have n1_ := aK (HB.out.grown hg0 HB.out.size (fun k hk => by cases hk))
        have HB0 := HB
        clear HO HB hrg0 hg0 hs0
        have HO := n0_; have HB := n1_; clear n0_ n1_
        have HRL := aK (show w.heap.size ≤ wr.heap.size from HB0.out.size)
        generalize hr0 : wr.heap.size = r at HRG HSZ HO HRL ⊢
        go_frame
        go_loopw [3] (fun v3 w2 => ∃ (left : Lit → Bool) (cnt : Nat) (out2 : List ByteArray), Aside0 (w2.ranges Tryz.prog 9 (plainElem Tryz.prog 3) b r 1000000 D left cnt) ∧ Aside0 (∀ s, s ∈ out2 ↔ s ∈ out ∨ ((mget m s).isSome = true ∧ left (kS s) = false)) ∧ Aside0 (out2.length + cnt ≤ i * 1000000 + 1000000) ∧ Aside0 (Kd.R Kd.string 9 w2 w.heap.size (fun k => k ≠ r) v3 out2) ∧ Aside0 (Below w.heap.size w w2))
          (fun _ w2 => w2.rangeLeft b r)
        case atStart =>
          refine ⟨_, _, out, HRG, ⟨fun s => ?_⟩, ⟨by have := HL.out; have := HSZ.out.2.2; omega⟩, HO, HB⟩
          · rw [(HD.out.2 s).1]
            constructor
            · exact .inl
            · rintro (h | ⟨h1, h2⟩)
              · exact h
              · rw [h1] at h2; cases h2
        case round =>
          obtain ⟨left, cnt, out2, hrg, HM2, HL2, HO2, HB2⟩ := hrel
          go_wp2_with (first
            | (at_next; refine wpList_next_ranges _ rfl _ rfl 9 law9 (plainElem Tryz.prog 3) Value.string (Value.int .i64) (fun key kl h => Maps.keyOf_string_inv Tryz.underlying9 h) (fun v y h => by obtain ⟨c, rfl, _⟩ := plainElem_int_inv Tryz.underlying3 h; exact ⟨c, rfl⟩) b r 1000000 D left cnt rfl hrg.out ?_ ?_))
          · intro hc0 hl0
            have HE0 := aK (And.intro hc0 hl0)
            clear hc0 hl0
            go_wp2
            go_roundg k1
            case measure => omega
            case rel =>
              refine ⟨i + 1, out2, by rw [w_inc_ i (by have := HR.out.2.2; omega)], ⟨by omega, by have := HK.out; omega⟩, ⟨fun s => ?_⟩, ⟨by have := HL2.out; omega⟩, ⟨Kd.R_mono HO2.out (fun _ _ => trivial)⟩, HB2⟩
              rw [HM2.out s, HM.out s]
              constructor
              · rintro (⟨j, h, h1, h2⟩ | ⟨h1, h2⟩)
                · exact ⟨j, h, by omega, h2⟩
                · exact ⟨i, hlt, by omega, by rw [HE.out]; exact h1⟩
              · rintro ⟨j, h, h1, h2⟩
                rcases Nat.lt_or_ge j i with h3 | h3
                · exact .inl ⟨j, h, h3, h2⟩
                · obtain rfl : j = i := by omega
                  exact .inr ⟨by rw [← HE.out]; exact h2, HE0.out.2 _⟩
          · skip
            intro x c kl y1 y2 w3 cnt3 hkey hlk hy hat hrg3 hlt3 hg3 hs3 hen
            obtain rfl := keyOf_str hkey
            have hhas : Maps.has D (kS x) = true := has_true_of_atKey hat
            rw [(HD.out.2 x).1] at hhas
            have HX := aK (And.intro hhas (And.intro hlk hlt3))
            have HRG3 := aK hrg3
            have HO3 := aK (Kd.R_grown HO2.out hg3 (fun k hk => by simpa using hk))
            have HB3 := aK (HB2.out.grown hg3 HB2.out.size (fun k hk => by cases hk; exact HRL.out))
            have HEQ := aK (hrg.out.left_eq)
            clear hkey hhas hlk hlt3 hat hy hrg3 hg3 hs3
            go_wp2_with (first
              | ((with_reducible refine gate_builtin (b := .append) (xs := #[.tmp 19, .tmp 21]) rfl ?_); at_builtin; refine Kd.R_append Kd.string (w0 := w) w.heap.size rfl (.tmp 19) (.tmp 21) 44 9 (.string ⟨#[]⟩) 16 rfl Tryz.underlying44 HI.out rfl (by decide) (by omega) _ out2 x [.string x] (fun k => k ≠ r) (fun _ => False) rfl rfl rfl (fun _ hk => hk.elim) (fun k hk => ?fr) HO3.out HB3.out HB3.out.size ?len ?_;
                 (case fr => have := HRG3.out.lt; omega);
                 (case len => have := HL2.out; have := HR.out.2.2; omega);
                 intro v4 w4 ho4 hb4 hg4 hat4
                 have n0_ := aK ho4; have n1_ := aK hb4
                 have n2_ := aK (HRG3.out.kept hg4 (fun e => by have := own_base (Kd.own_of_R HO3.out) b e.symm; have := HBL.out; omega) (fun e => HO3.out.1 r e.symm rfl))
                 clear ho4 hb4 hg4 hat4 HO3 HB3 HRG3
                 have HO3 := n0_; have HB3 := n1_; have HRG3 := n2_; clear n0_ n1_ n2_; go_frame))
            refine ⟨⟨_, cnt3, out2 ++ [x], HRG3, ⟨fun s => ?_⟩, ⟨by have := HL2.out; have := HX.out.2.2; rw [List.length_append, List.length_singleton]; omega⟩, HO3, HB3⟩, ?_⟩
            · rw [List.mem_append, List.mem_singleton, HM2.out s, sameKey_str]
              constructor
              · rintro ((h | ⟨h1, h2⟩) | rfl)
                · exact .inl h
                · exact .inr ⟨h1, by rw [h2]; rfl⟩
                · exact .inr ⟨HX.out.1, by simp⟩
              · rintro (h | ⟨h1, h2⟩)
                · exact .inl (.inl h)
                · rw [Bool.and_eq_false_iff] at h2
                  rcases h2 with h2 | h2
                  · exact .inl (.inr ⟨h1, h2⟩)
                  · exact .inr (by simpa using h2)
            · rw [HRG3.out.left_eq, HEQ.out]
              exact HX.out.2.2
    · have hi : i = bs.length := by have := HK.out; omega
      have c1 : decide ((i : Int) < (bs.length : Int)) = false := decide_eq_false (by omega)
      have hlen : out.length ≤ 10000000 := by have := HL.out; have := HR.out.2.2; omega
      have hu : uniqS out = pathsM (bs.map Prod.snd) := inc_ext (uniqS_inc _) (uniqS_inc _) (fun s => by
        rw [mem_uniqS, HM.out s]
        show _ ↔ s ∈ pathsM (bs.map Prod.snd)
        rw [mem_pathsM]
        constructor
        · rintro ⟨j, h, _, h2⟩
          exact ⟨(bs[j]).2, List.mem_map.2 ⟨bs[j], List.getElem_mem _, rfl⟩, h2⟩
        · rintro ⟨m, hm, h2⟩
          obtain ⟨p, hp, rfl⟩ := List.mem_map.1 hm
          obtain ⟨j, h, rfl⟩ := List.mem_iff_getElem.1 hp
          exact ⟨j, h, by omega, h2⟩)
      obtain ⟨A, cA, rfl⟩ := Kd.R_slice HO.out
      have hs := aK (slices_Sort_string_string.sorts HO.out HB.out (r := sortdS out) (by rw [slices_Sort_string_string.f, if_pos (by omega)]))
      have HU := aK (And.intro hu hlen)
      clear HK HM HL HO HB hu hlen
      go_wp2_with fail
      go_at_call 50
      refine hs.out.mono ?_
      rintro e w2 ⟨rfl, hR2, hB2⟩
      clear hs
      have hc := aK (compact_row hR2 hB2 (by rw [sortdS_len]; have := HU.out.2; omega))
      rw [show Lib.compactUpTo (sortdS out).toArray (sortdS out).toArray.size = pathsM (bs.map Prod.snd) from HU.out.1] at hc
      clear hR2 hB2
      go_wp2_with fail
      go_at_call 51
      refine hc.out.mono ?_
      rintro e w3 ⟨v', rfl, hR3, hB3⟩
      have HO := aK hR3
      have HB := aK hB3
      clear hc hR3 hB3
      go_wp2
      go_ret
      exact ⟨_, rfl, HO.out, HB.out⟩

/-! ### tree_files: function 57 (by hand) -/
open Go.Maps
def valM (m : MP) (s : ByteArray) : Int := (mget m s).getD 0
/-- The files with contents, in increasing order of their paths. -/
def filesM (m : MP) : List S55 := ((pathsM [m]).filter fun s => decide (valM m s ≠ 0)).map fun s => ⟨s, valM m s⟩
theorem at9 {w : World} {A : Option Addr} {n : Nat} {xs : List ByteArray} (h : Kd.string.C w A n xs) (i : Nat) (hi : i < n) (hn : n = xs.length) : ∃ ad, A = some ad ∧ w.cell? (ad.add i) = some (.string (xs[i]'(by omega))) := by
  obtain ⟨ad, e, hx⟩ := Kd.at_string h (i : Int) (by omega) (by omega)
  refine ⟨ad, e, ?_⟩
  rw [Int.toNat_natCast] at hx
  rw [hx]
  simp [rdOf, List.getD_eq_getElem?_getD, List.getElem?_eq_getElem (show i < xs.length by omega)]
theorem filt_snoc (m : MP) (ks : List ByteArray) (i : Nat) (h : i < ks.length) :
    (((ks.take (i + 1)).filter fun s => decide (valM m s ≠ 0)).map fun s => (⟨s, valM m s⟩ : S55)) = (((ks.take i).filter fun s => decide (valM m s ≠ 0)).map fun s => (⟨s, valM m s⟩ : S55)) ++ (if valM m ks[i] ≠ 0 then [⟨ks[i], valM m ks[i]⟩] else []) := by
  rw [List.take_succ_eq_append_getElem h, List.filter_append, List.map_append]
  congr 1
  by_cases hz : valM m ks[i] = 0
  · rw [if_neg (fun h => h hz)]; simp [hz]
  · rw [if_pos hz]; simp [hz]
theorem SM.look {m : MP} {D : DataW Unit} (hR : Rep D m) {s : ByteArray} {c : Int} (h : D.atKey (kS s) (.lit (.int .i64 0)) = .lit (.int .i64 c)) : c = valM m s := by
  have h1 := (hR s).2
  rw [i0, h] at h1
  injection h1 with h1
  injection h1
theorem tree_files.calls_ (b : Nat) (m : MP) (w : World) (hm : SM Tryz.prog 9 3 w b 1000000 m) (hk : (pathsM [m]).all okS = true) (hlen : m.length ≤ 1000000) :
    Calls Tryz.prog 57 #[.map (some b)] w fun e w' => ∃ v, e = .returned v ∧ Kd.R k55 55 w' w.heap.size (fun _ => True) v (filesM m) ∧ Below w.heap.size w w' := by
  have hu55 := Tryz.underlying55
  have info55 : (Tryz.prog.info? 55).map (fun i => (i.zero, i.size, i.bytes)) = some (some (.agg #[(.string ⟨#[]⟩), (.int .i64 0)]), 2, 24) := by kernel_rfl
  have HI := aK info55
  have HM := aK hm
  have HK0 := aK (And.intro hk hlen)
  clear hm hk hlen info55
  go_enter Tryz.func57, Tryz.ntmps57
  go_wp2_with fail
  go_at_call 67
  generalize hw1 : w.alloc _ = w1
  have hs1 : w1.heap.size = w.heap.size + 1 := by rw [← hw1]; simp
  have hb1 : Below w.heap.size w w1 := by rw [← hw1]; exact below_alloc (Below.refl _ _) _
  have hat : MapsAt w1 w.heap.size [(b, m)] := by
    intro j hj
    have hj0 : j = 0 := by simpa using hj
    subst hj0
    exact ⟨by rw [← hw1]; simp, HM.out.below hb1⟩
  refine (tree_paths.calls_ w.heap.size 1 [(b, m)] w1 (by omega) hat (by simp)).mono ?_
  rintro e w2 ⟨v, rfl, hR, hB⟩
  clear hw1 hat
  have hB2 := below_then hb1 hb1.size hB
  obtain ⟨A, cA, rfl⟩ := Kd.R_slice hR
  have hpl : (pathsM [m]).length ≤ m.length := by
    have := uniqS_len ([m].flatMap fun m => m.map Prod.fst)
    simpa [pathsM] using this
  have HP := aK (And.intro (Kd.R_reads' hR).2.2 hpl)
  have HB := aK hB2
  clear hs1 hb1 hR hB hB2 hpl
  change Aside0 (Kd.C Kd.string w2 A (pathsM [m]).length (pathsM [m]) ∧ _) at HP
  simp only [List.map_cons, List.map_nil]
  generalize hks : pathsM [m] = ks at HP HK0
  have HKS := aK hks
  clear hks
  go_wp2
  go_loopg [3, 10] ks.length (fun kq v3 v10 w' => ∃ (i : Nat), v10 = .int .i64 (i : Int) ∧ Aside0 (i ≤ ks.length ∧ ks.length - i ≤ kq) ∧ Aside0 (Kd.R k55 55 w' w2.heap.size (fun _ => True) v3 (((ks.take i).filter fun s => decide (valM m s ≠ 0)).map fun s => (⟨s, valM m s⟩ : S55))) ∧ Aside0 (Below w2.heap.size w2 w'))
  case atStart => exact ⟨0, rfl, ⟨Nat.zero_le _, by omega⟩, ⟨Kd.R_nil _ _ _ _ _⟩, ⟨Below.refl _ _⟩⟩
  case round =>
    obtain ⟨i, rfl, HK, HO, HB2⟩ := hrel
    by_cases hlt : i < ks.length
    · cases gk with
      | zero => exfalso; have := HK.out; omega
      | succ k1 =>
        have c1 : decide ((i : Int) < (ks.length : Int)) = true := decide_eq_true (by omega)
        obtain ⟨ad, e, hx⟩ := at9 HP.out.1 i hlt rfl
        subst e
        replace hx := (HB2.out.cell (World.block_lt_of_cell? w2 _ hx)).trans hx
        have p : (0 ≤ (i : Int)) = True := eq_true (by omega)
        have q : ((i : Int) < (ks.length : Int)) = True := eq_true (by omega)
        have HS := aK (show okS ks[i] = true from List.all_eq_true.1 HK0.out.1 _ (List.getElem_mem _))
        have HF := aK (filt_snoc m ks i hlt)
        generalize ks[i] = s at hx HS HF
        obtain ⟨D, hD, hRp⟩ := (HM.out.below HB.out).below HB2.out
        have HD := aK (And.intro hD hRp)
        clear hD hRp
        by_cases hz : valM m s = 0
        · go_wp2_with (first
            | (at_lookup; refine wpList_lookup_own_int _ rfl _ _ 77 rfl 9 3 .i64 law9 Tryz.underlying77 Tryz.underlying3 (zero3 _) b 1000000 D rfl HD.out.1 _ _ rfl (key_ok HS.out) ?_; intro c hat hwc; obtain rfl := SM.look HD.out.2 hat; clear hat hwc; simp only [hz]))
          go_roundg k1
          case measure => omega
          case rel =>
            refine ⟨i + 1, by rw [w_inc_ i (by have := HP.out.2; have := HK0.out.2; omega)], ⟨by omega, by have := HK.out; omega⟩, ⟨?_⟩, HB2⟩
            rw [HF.out, if_neg (fun h => h hz), List.append_nil]
            exact HO.out
        · go_wp2_with (first
            | (at_lookup; refine wpList_lookup_own_int _ rfl _ _ 77 rfl 9 3 .i64 law9 Tryz.underlying77 Tryz.underlying3 (zero3 _) b 1000000 D rfl HD.out.1 _ _ rfl (key_ok HS.out) ?_; intro c hat hwc; obtain rfl := SM.look HD.out.2 hat; clear hat hwc)
            | ((with_reducible refine gate_builtin (b := .append) (xs := #[.tmp 18, .tmp 24]) rfl ?_); at_builtin
               refine Kd.R_append k55 (w0 := w2) w2.heap.size rfl (.tmp 18) (.tmp 24) 35 55 (.agg #[(.string ⟨#[]⟩), (.int .i64 0)]) 24 rfl Tryz.underlying35 HI.out rfl (by decide) (by omega) _ _ (⟨s, valM m s⟩ : S55) [.string s, .int .i64 (valM m s)] (fun _ => True) (fun _ => False) rfl rfl (k55_mkM _ _ _ (⟨s, valM m s⟩ : S55)) (fun _ hk => hk.elim) (fun _ _ => trivial) HO.out HB2.out HB2.out.size ?len ?_;
               (case len => rw [List.length_map]; have h1 := List.length_filter_le (fun s => decide (valM m s ≠ 0)) (ks.take i); rw [List.length_take] at h1; have := HP.out.2; have := HK0.out.2; omega);
               intro v4 w4 ho4 hb4 hg4 hat4
               have n0_ := aK ho4; have n1_ := aK hb4
               clear ho4 hb4 hg4 hat4 HO HB2
               have HO := n0_; have HB2 := n1_; clear n0_ n1_))
          go_roundg k1
          case measure => omega
          case rel =>
            refine ⟨i + 1, by rw [w_inc_ i (by have := HP.out.2; have := HK0.out.2; omega)], ⟨by omega, by have := HK.out; omega⟩, ⟨?_⟩, HB2⟩
            rw [HF.out, if_pos hz]
            exact HO.out
    · have hi : i = ks.length := by have := HK.out; omega
      have c1 : decide ((i : Int) < (ks.length : Int)) = false := decide_eq_false (by omega)
      have h1 := HO.out
      rw [hi, List.take_length, ← HKS.out] at h1
      have HO2 := aK h1
      clear h1 HO
      go_wp2
      go_ret
      exact ⟨_, rfl, Kd.R_lower HO2.out HB.out.size, below_then HB.out HB.out.size HB2.out⟩
theorem mget_conts (l : List S55) (s : ByteArray) : (mget (contsM l) s).isSome = true ↔ ∃ f ∈ l, f.f0 = s := by
  have key : ∀ (l : List S55) (m : MP), (mget (l.foldl (fun m x => mput m x.f0 x.f1) m) s).isSome = true ↔ (∃ f ∈ l, f.f0 = s) ∨ (mget m s).isSome = true := by
    intro l
    induction l with
    | nil => intro m; simp
    | cons a l ih =>
      intro m
      rw [List.foldl_cons, ih, mget_put]
      by_cases h : a.f0 = s
      · simp [h]
      · rw [if_neg h]; simp [h]
  have := key l []
  simpa [contsM, mget] using this
theorem okS_conts {l : List S55} (h : okFs l = true) {s : ByteArray} (hs : (mget (contsM l) s).isSome = true) : okS s = true := by
  obtain ⟨f, hf, rfl⟩ := (mget_conts l s).1 hs
  have := List.all_eq_true.1 h f hf
  rw [Bool.and_eq_true] at this
  exact this.1
theorem okS_paths {ls : List (List S55)} (h : ∀ l ∈ ls, okFs l = true) : (pathsM (ls.map contsM)).all okS = true := by
  rw [List.all_eq_true]
  intro s hs
  obtain ⟨m, hm, h2⟩ := (mem_pathsM _ s).1 hs
  obtain ⟨l, hl, rfl⟩ := List.mem_map.1 hm
  exact okS_conts (h l hl) h2
theorem contsM_len (l : List S55) : (contsM l).length = l.length := by
  have key : ∀ (l : List S55) (m : MP), (l.foldl (fun m x => mput m x.f0 x.f1) m).length = m.length + l.length := by
    intro l
    induction l with
    | nil => intro m; rfl
    | cons a l ih => intro m; rw [List.foldl_cons, ih, mput, List.length_cons, List.length_cons]; omega
  have := key l []
  simpa [contsM] using this
theorem pathsM_len (ms : List MP) (N : Nat) (h : ∀ m ∈ ms, m.length ≤ N) : (pathsM ms).length ≤ ms.length * N := by
  refine Nat.le_trans (uniqS_len _) ?_
  induction ms with
  | nil => simp
  | cons m ms ih =>
    have h1 := ih (fun m hm => h m (by simp [hm]))
    have h2 := h m (by simp)
    rw [List.flatMap_cons, List.length_append, List.length_map, List.length_cons, Nat.succ_mul]
    omega

/-! ### tree_Apply: function 37 (by hand) -/
open Go.Maps
def applyM : MP → List S53 → Option MP
  | m, [] => some m
  | m, c :: cs => if c.f1 = 0 then (if (mget m c.f0).isSome = true then applyM (mdel m c.f0) cs else none) else applyM (mput m c.f0 c.f1) cs
def okCs (l : List S53) : Bool := l.all fun x => okS x.f0 && okI x.f1
def tree_Apply.f (k : Nat) (l0 : List S55) (l1 : List S53) : Option (List S55 × Int) := (tree_Right.f k l0).bind fun e => (if e = 0 then (if (l1.length : Int) > 16 then (some (([] : List S55), 4)) else (if okFs l0 = true ∧ okCs l1 = true ∧ l0.length ≤ 100000 then (if (applyM (contsM l0) l1).isNone = true then (some (([] : List S55), 8)) else ((tree_Right.f k (filesM ((applyM (contsM l0) l1).getD []))).bind fun e2 => (if e2 = 0 then (some (filesM ((applyM (contsM l0) l1).getD []), 0)) else (some (([] : List S55), e2))))) else (none))) else (some (([] : List S55), e)))
theorem tree_Apply.mono : ∀ a0 a1 k, LeO (tree_Apply.f k a0 a1) (tree_Apply.f (k + 1) a0 a1) := by
  intro a0 a1 k
  unfold tree_Apply.f
  refine LeO.bind (tree_Right.mono _ _) (fun _ => ?_)
  refine LeO.ite ?_ (LeO.refl _)
  refine LeO.ite (LeO.refl _) ?_
  refine LeO.ite ?_ (LeO.refl _)
  refine LeO.ite (LeO.refl _) ?_
  exact LeO.bind (tree_Right.mono _ _) (fun _ => LeO.refl _)
theorem rd47_nat (l : List S53) (i : Nat) (h : i < l.length) : rd_T53 l (i : Int) = l[i] := by
  simp [rd_T53, List.getD_eq_getElem?_getD, List.getElem?_eq_getElem h]
/-- All keys of a map are fit. -/
def okM (m : MP) : Prop := ∀ s, (mget m s).isSome = true → okS s = true
theorem okM.put {m : MP} (h : okM m) {s : ByteArray} (hs : okS s = true) (x : Int) : okM (mput m s x) := by
  intro t ht
  rw [mget_put] at ht
  by_cases e : s = t
  · rw [← e]; exact hs
  · rw [if_neg e] at ht; exact h t ht
theorem okM.del {m : MP} (h : okM m) (s : ByteArray) : okM (mdel m s) := by
  intro t ht
  rw [mget_del] at ht
  by_cases e : s = t
  · rw [if_pos e] at ht; cases ht
  · rw [if_neg e] at ht; exact h t ht
theorem okM.paths {m : MP} (h : okM m) : (pathsM [m]).all okS = true := by
  rw [List.all_eq_true]
  intro s hs
  obtain ⟨m', hm, h2⟩ := (mem_pathsM _ s).1 hs
  rw [List.mem_singleton] at hm
  subst hm
  exact h s h2
theorem mdel_len (m : MP) (s : ByteArray) : (mdel m s).length ≤ m.length := List.length_filter_le _ _
theorem tree_Apply.calls (k : Nat) (A0 : Option Addr) (c0 : Nat) (l0 : List (S55)) (A1 : Option Addr) (c1 : Nat) (l1 : List (S53)) (r1 : List (S55)) (r2 : Int) (w : World) (aw : Kd.C k55 w A0 l0.length l0) (ax : l0.length ≤ c0) (aB : Kd.C k53 w A1 l1.length l1) (aC : l1.length ≤ c1) (h : tree_Apply.f k l0 l1 = some (r1, r2)) :
    Calls Tryz.prog 37 #[.slice A0 l0.length c0, .slice A1 l1.length c1] w fun e w' => ∃ aD : Value, e = .returned (.tuple #[aD, .int .i64 r2]) ∧ Kd.R k55 55 w' w.heap.size (fun _ => True) aD r1 ∧ Below w.heap.size w w' := by
  have aM := Tryz.underlying55
  have aN := Tryz.underlying53
  unfold tree_Apply.f at h
  obtain ⟨e0, aE, h⟩ := Option.bind_eq_some_iff.mp h
  have hRt := aK (tree_Right.calls k A0 c0 l0 e0 w aw ax aE)
  have HA := aK (And.intro aw (And.intro ax (And.intro aB aC)))
  clear aw ax aB aC aE
  go_enter Tryz.func37, Tryz.ntmps37
  go_wp2_with fail
  go_at_call 55
  refine hRt.out.mono ?_
  rintro e w1 ⟨rfl, aF⟩
  have HB := aK aF
  clear hRt aF
  by_cases hz : e0 = 0
  case neg =>
    rw [if_neg hz] at h
    have h2 := Option.some.inj h
    obtain ⟨h3, h4⟩ := Prod.mk.inj h2
    subst h3; subst h4
    clear h h2
    have au : (e0 != 0) = true := by simpa using hz
    go_wp2
    go_ret2
    exact ⟨_, rfl, Kd.R_nil _ _ _ _ _, HB.out⟩
  subst hz
  rw [if_pos rfl] at h
  by_cases am : (l1.length : Int) > 16
  · rw [if_pos am] at h
    have h2 := Option.some.inj h
    obtain ⟨rfl, rfl⟩ : r1 = [] ∧ r2 = 4 := ⟨(Prod.mk.inj h2).1.symm, (Prod.mk.inj h2).2.symm⟩
    clear h h2
    have au : decide ((16 : Int) < (l1.length : Int)) = true := decide_eq_true am
    go_wp2
    go_ret2
    exact ⟨_, rfl, Kd.R_nil _ _ _ _ _, HB.out⟩
  rw [if_neg am] at h
  have au : decide ((16 : Int) < (l1.length : Int)) = false := decide_eq_false am
  split at h
  case isFalse => cases h
  rename_i hh
  have HH := aK (And.intro hh (show l1.length ≤ 16 by omega))
  have H := aK h
  clear h hh am
  go_wp2_with fail
  go_at_call 56
  refine (tree_contents.calls_ A0 c0 l0 w1 (Kd.C_below HA.out.1 HB.out) HA.out.2.1 HH.out.1.1 (by have := HH.out.1; omega)).mono ?_
  rintro e w2 ⟨b, rfl, hb, hm, aG⟩
  have aO := aK hm
  have aP := aK (below_then HB.out HB.out.size aG)
  have HBB := aK (show w.heap.size ≤ b from Nat.le_trans HB.out.size hb)
  clear hb hm aG au
  go_wp2
  go_loopg [26] l1.length (fun kq aQ w' => ∃ (i : Nat) (m : MP), aQ = .int .i64 (i : Int) ∧ Aside0 (i ≤ l1.length ∧ l1.length - i ≤ kq) ∧ Aside0 (SM Tryz.prog 9 3 w' b (l0.length + i) m) ∧ Aside0 (applyM m (l1.drop i) = applyM (contsM l0) l1 ∧ okM m ∧ m.length ≤ l0.length + i) ∧ Aside0 (Below w.heap.size w w'))
  case atStart => exact ⟨0, contsM l0, rfl, ⟨Nat.zero_le _, by omega⟩, aO, ⟨⟨rfl, fun s hs => okS_conts HH.out.1.1 hs, by rw [contsM_len]; omega⟩⟩, aP⟩
  case round =>
    obtain ⟨i, m, rfl, HK, HM, HP, aa⟩ := hrel
    by_cases hlt : i < l1.length
    · cases gk with
      | zero => exfalso; have := HK.out; omega
      | succ k1 =>
        have c1 : decide ((i : Int) < (l1.length : Int)) = true := decide_eq_true (by omega)
        obtain ⟨ad, e, ak, al⟩ := at_T53 HA.out.2.2.1 (i : Int) (by omega) (by omega)
        subst e
        rw [rd47_nat l1 i hlt, Int.toNat_natCast] at ak al
        replace ak := (aa.out.cell (World.block_lt_of_cell? w _ ak)).trans ak
        replace al := (aa.out.cell (World.block_lt_of_cell? w _ al)).trans al
        have p : (0 ≤ (i : Int)) = True := eq_true (by omega)
        have q : ((i : Int) < (l1.length : Int)) = True := eq_true (by omega)
        have HSX := aK (show okS l1[i].f0 = true ∧ okI l1[i].f1 = true from by
          have h1 := List.all_eq_true.1 HH.out.1.2.1 l1[i] (List.getElem_mem _)
          rw [Bool.and_eq_true] at h1
          exact h1)
        have HD := aK (show applyM m (l1.drop i) = if l1[i].f1 = 0 then (if (mget m l1[i].f0).isSome = true then applyM (mdel m l1[i].f0) (l1.drop (i + 1)) else none) else applyM (mput m l1[i].f0 l1[i].f1) (l1.drop (i + 1)) from by rw [List.drop_eq_getElem_cons hlt, applyM])
        generalize l1[i].f0 = s at ak al HSX HD
        generalize l1[i].f1 = x at ak al HSX HD
        by_cases hx : x = 0
        · subst hx
          by_cases hs : (mget m s).isSome = true
          · go_wp2_with (first
              | ((with_reducible refine gate_dst (N := 9) rfl ?_); refine box_event ?hg (N := 9) ?hd (cs := #[.string (⟨#[]⟩ : ByteArray), .int .i64 0]) (t := 53) ?hr ?_; (case hd => rfl); (case hg => rfl); (case hr => first | (go_simp; done) | (go_simp; rfl)); intro gb hg w9 hbox hb
                 have ac := aK (HM.out.below hb); have ae := aK (below_step aa.out hb); have ah := aK hbox; have ai := aK (by rw [hg]; exact HM.out.lt : b < gb)
                 have aj := aK (by rw [hg]; exact aa.out.size : w.heap.size ≤ gb)
                 have an : w9.cell? ⟨gb, 0, none⟩ = some (.string (⟨#[]⟩ : ByteArray)) := (blk_cell hbox 0).trans rfl
                 have ao : w9.cell? ⟨gb, 1, none⟩ = some (.int .i64 0) := (blk_cell hbox 1).trans rfl
                 have ap := blk_frozen hbox 0
                 have aq := blk_frozen hbox 1
                 clear HM aa hb hbox hg
                 have HM := ac; have aa := ae; have BK := ah; have GG := ai; have GW := aj; clear ac ae ah ai aj)
              | (at_lookup
                 obtain ⟨D, hD, hRp⟩ := (HM.out.far (a := ⟨gb, 0, none⟩) (Nat.ne_of_lt GG.out) (.string s)).far (a := ⟨gb, 1, none⟩) (Nat.ne_of_lt GG.out) (.int .i64 0)
                 refine wpList_lookup_own_ok_int _ rfl _ _ 77 rfl 9 3 .i64 law9 Tryz.underlying77 Tryz.underlying3 (zero3 _) b (l0.length + i) D rfl hD _ _ rfl (key_ok HSX.out.1) ?_
                 intro c hat hwc
                 rw [(hRp s).1, hs]
                 clear hat hwc hD hRp)
              | (at_delete
                 obtain ⟨D, hD, hRp⟩ := (HM.out.far (a := ⟨gb, 0, none⟩) (Nat.ne_of_lt GG.out) (.string s)).far (a := ⟨gb, 1, none⟩) (Nat.ne_of_lt GG.out) (.int .i64 0)
                 refine wpList_delete_own _ rfl _ _ 77 9 rfl 3 law9 Tryz.underlying77 _ b (l0.length + i) D rfl hD _ _ rfl (key_ok HSX.out.1) ?_
                 intro w3 ab af
                 have ac := aK (show SM Tryz.prog 9 3 w3 b (l0.length + (i + 1)) (mdel m s) from SM.mono ⟨_, ab, hRp.del s⟩ (by omega))
                 have ae := aK (((aa.out.setCell (p := ⟨gb, 0, none⟩) GW.out (.string s)).setCell (p := ⟨gb, 1, none⟩) GW.out (.int .i64 0)).grown af.grown (by have := aa.out.size; simpa [World.setCell] using this) (fun k hk => by cases hk; exact HBB.out))
                 clear HM aa hD hRp ab af
                 have HM := ac; have aa := ae; clear ac ae))
            go_roundg k1
            case measure => omega
            case rel =>
              refine ⟨i + 1, mdel m s, by rw [w_inc_ i (by have := HH.out; omega)], ⟨by omega, by have := HK.out; omega⟩, HM, ⟨⟨?_, HP.out.2.1.del s, by have := HP.out.2.2; have := mdel_len m s; omega⟩⟩, aa⟩
              rw [← HP.out.1, HD.out, if_pos (by trivial), if_pos hs]
          · go_wp2_with (first
              | ((with_reducible refine gate_dst (N := 9) rfl ?_); refine box_event ?hg (N := 9) ?hd (cs := #[.string (⟨#[]⟩ : ByteArray), .int .i64 0]) (t := 53) ?hr ?_; (case hd => rfl); (case hg => rfl); (case hr => first | (go_simp; done) | (go_simp; rfl)); intro gb hg w9 hbox hb
                 have ac := aK (HM.out.below hb); have ae := aK (below_step aa.out hb); have ah := aK hbox; have ai := aK (by rw [hg]; exact HM.out.lt : b < gb)
                 have aj := aK (by rw [hg]; exact aa.out.size : w.heap.size ≤ gb)
                 have an : w9.cell? ⟨gb, 0, none⟩ = some (.string (⟨#[]⟩ : ByteArray)) := (blk_cell hbox 0).trans rfl
                 have ao : w9.cell? ⟨gb, 1, none⟩ = some (.int .i64 0) := (blk_cell hbox 1).trans rfl
                 have ap := blk_frozen hbox 0
                 have aq := blk_frozen hbox 1
                 clear HM aa hb hbox hg
                 have HM := ac; have aa := ae; have BK := ah; have GG := ai; have GW := aj; clear ac ae ah ai aj)
              | (at_lookup
                 obtain ⟨D, hD, hRp⟩ := (HM.out.far (a := ⟨gb, 0, none⟩) (Nat.ne_of_lt GG.out) (.string s)).far (a := ⟨gb, 1, none⟩) (Nat.ne_of_lt GG.out) (.int .i64 0)
                 refine wpList_lookup_own_ok_int _ rfl _ _ 77 rfl 9 3 .i64 law9 Tryz.underlying77 Tryz.underlying3 (zero3 _) b (l0.length + i) D rfl hD _ _ rfl (key_ok HSX.out.1) ?_
                 intro c hat hwc
                 rw [(hRp s).1, show (mget m s).isSome = false from by simpa using hs]
                 clear hat hwc hD hRp))
            have h1 := H.out
            have h3 : (applyM (contsM l0) l1).isNone = true := by rw [← HP.out.1, HD.out, if_pos (by trivial), if_neg hs]; rfl
            rw [if_pos h3] at h1
            obtain ⟨h4, h5⟩ := Prod.mk.inj (Option.some.inj h1)
            subst h4; subst h5
            go_ret2
            exact ⟨_, rfl, Kd.R_nil _ _ _ _ _, (aa.out.setCell (p := ⟨gb, 0, none⟩) GW.out (.string s)).setCell (p := ⟨gb, 1, none⟩) GW.out (.int .i64 0)⟩
        · have hxb : (x != 0) = true := by simpa using hx
          go_wp2_with (first
            | ((with_reducible refine gate_dst (N := 9) rfl ?_); refine box_event ?hg (N := 9) ?hd (cs := #[.string (⟨#[]⟩ : ByteArray), .int .i64 0]) (t := 53) ?hr ?_; (case hd => rfl); (case hg => rfl); (case hr => first | (go_simp; done) | (go_simp; rfl)); intro gb hg w9 hbox hb
               have ac := aK (HM.out.below hb); have ae := aK (below_step aa.out hb); have ah := aK hbox; have ai := aK (by rw [hg]; exact HM.out.lt : b < gb)
               have aj := aK (by rw [hg]; exact aa.out.size : w.heap.size ≤ gb)
               have an : w9.cell? ⟨gb, 0, none⟩ = some (.string (⟨#[]⟩ : ByteArray)) := (blk_cell hbox 0).trans rfl
               have ao : w9.cell? ⟨gb, 1, none⟩ = some (.int .i64 0) := (blk_cell hbox 1).trans rfl
               have ap := blk_frozen hbox 0
               have aq := blk_frozen hbox 1
               clear HM aa hb hbox hg
               have HM := ac; have aa := ae; have BK := ah; have GG := ai; have GW := aj; clear ac ae ah ai aj)
            | (at_mapUpdate
               obtain ⟨D, hD, hRp⟩ := (HM.out.far (a := ⟨gb, 0, none⟩) (Nat.ne_of_lt GG.out) (.string s)).far (a := ⟨gb, 1, none⟩) (Nat.ne_of_lt GG.out) (.int .i64 x)
               refine wpList_mapUpdate_own _ rfl _ _ _ 77 rfl 9 3 law9 Tryz.underlying77 _ b (l0.length + i) D rfl hD (by have := HK.out; have := HH.out; unfold maxLen; omega) _ _ _ rfl rfl (key_ok HSX.out.1) _ [] (val_ok HSX.out.2) ?_
               intro w3 ab ag
               have ac := aK (show SM Tryz.prog 9 3 w3 b (l0.length + (i + 1)) (mput m s x) from ⟨_, ab, hRp.put hD.isMap s x⟩)
               have ae := aK (((aa.out.setCell (p := ⟨gb, 0, none⟩) GW.out (.string s)).setCell (p := ⟨gb, 1, none⟩) GW.out (.int .i64 x)).grown ag (by have := aa.out.size; simpa [World.setCell] using this) (fun k hk => by cases hk; exact HBB.out))
               clear HM aa hD hRp ab ag
               have HM := ac; have aa := ae; clear ac ae))
          go_roundg k1
          case measure => omega
          case rel =>
            refine ⟨i + 1, mput m s x, by rw [w_inc_ i (by have := HH.out; omega)], ⟨by omega, by have := HK.out; omega⟩, HM, ⟨⟨?_, HP.out.2.1.put HSX.out.1 x, by have := HP.out.2.2; rw [mput, List.length_cons]; omega⟩⟩, aa⟩
            rw [← HP.out.1, HD.out, if_neg hx]
    · have hi : i = l1.length := by have := HK.out; omega
      have c1 : decide ((i : Int) < (l1.length : Int)) = false := decide_eq_false (by omega)
      have hA : applyM (contsM l0) l1 = some m := by rw [← HP.out.1, List.drop_of_length_le (by omega), applyM]
      have h1 := H.out
      rw [hA, if_neg (by simp)] at h1
      obtain ⟨e2, ay, h1⟩ := Option.bind_eq_some_iff.mp h1
      rw [Option.getD_some] at h1 ay
      have hfl := aK (tree_files.calls_ b m wr (HM.out.mono (by have := HH.out; omega)) HP.out.2.1.paths (by have := HP.out.2.2; have := HH.out; omega))
      have av := aK (And.intro ay h1)
      have HBr := aK aa.out
      clear hA h1 ay HK HM HP aa
      go_wp2_with fail
      go_at_call 57
      refine hfl.out.mono ?_
      rintro e w3 ⟨v3, rfl, ar, aH⟩
      obtain ⟨A3, c3, rfl⟩ := Kd.R_slice ar
      have aI := aK (tree_Right.calls k A3 c3 (filesM m) e2 w3 (Kd.R_reads' ar).2.2 (Kd.R_reads' ar).2.1 av.out.1)
      have aJ := aK (Kd.R_lower ar HBr.out.size)
      have az := aK (below_then HBr.out HBr.out.size aH)
      clear hfl ar aH
      go_wp2_with fail
      go_at_call 55
      refine aI.out.mono ?_
      rintro e w4 ⟨rfl, aA⟩
      have aR := aK (Kd.R_below aJ.out aA)
      have aL := aK (below_then az.out az.out.size aA)
      have h1 := av.out.2
      clear aI aA aJ az HBr
      by_cases hz : e2 = 0
      · subst hz
        rw [if_pos rfl] at h1
        obtain ⟨h4, h5⟩ := Prod.mk.inj (Option.some.inj h1)
        subst h4; subst h5
        clear h1 av
        go_wp2
        go_ret2
        exact ⟨_, rfl, aR.out, aL.out⟩
      · rw [if_neg hz] at h1
        obtain ⟨h4, h5⟩ := Prod.mk.inj (Option.some.inj h1)
        subst h4; subst h5
        have au : (e2 != 0) = true := by simpa using hz
        clear h1 av
        go_wp2
        go_ret2
        exact ⟨_, rfl, Kd.R_nil _ _ _ _ _, aL.out⟩

end Go.Proofs.YtgadbpljlpclnaaGreatDoor.H
