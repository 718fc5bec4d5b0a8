import Derived.Test.YtgadbpljlpclnaaGreatDoorHx0
import Derived.Test.YtgadbpljlpclnaaGreatDoorHx7
import Derived.Test.YtgadbpljlpclnaaGreatDoorHx9
import Derived.Test.YtgadbpljlpclnaaGreatDoorHx12
namespace Go.Proofs.YtgadbpljlpclnaaGreatDoor.H
open Go.RowKit Go.Proofs.YtgadbpljlpclnaaGreatDoorW.PrintWords Go.Proofs.YtgadbpljlpclnaaGreatDoorW.PrintLast Go.Proofs.YtgadbpljlpclnaaGreatDoorW.PrintMore
attribute [local go_sem] max2_int min2_int max_two min_two max_three min_three max_four min_four
set_option linter.unusedVariables false
set_option linter.unusedSimpArgs false

/-! ### history_Right: function 14 (by hand) -/
open Go.Maps Go.Proofs.YtgadbpljlpclnaaGreatDoor.Q
/-- What Right keeps of the commits before: ID, time, the slice of the files and the files. -/
abbrev GL := List (Int × Int × Value × List S55)
def tmG (gs : GL) : List (Int × Int) := gs.map fun g => (g.1, g.2.1)
def fvG (gs : GL) : MV := gs.map fun g => (g.1, g.2.2.1)
def flG (gs : GL) : List (Int × List S55) := gs.map fun g => (g.1, g.2.2.2)
def fget : List (Int × List S55) → Int → Option (List S55)
  | [], _ => none
  | p :: m, x => if p.1 = x then some p.2 else fget m x
theorem gget_is (gs : GL) (x : Int) : (vget (fvG gs) x = none ∧ fget (flG gs) x = none) ∨ ∃ g ∈ gs, vget (fvG gs) x = some g.2.2.1 ∧ fget (flG gs) x = some g.2.2.2 := by
  induction gs with
  | nil => exact .inl ⟨rfl, rfl⟩
  | cons g gs ih =>
    show ((if g.1 = x then some g.2.2.1 else vget (fvG gs) x) = none ∧ (if g.1 = x then some g.2.2.2 else fget (flG gs) x) = none) ∨ ∃ q ∈ g :: gs, (if g.1 = x then some g.2.2.1 else vget (fvG gs) x) = some q.2.2.1 ∧ (if g.1 = x then some g.2.2.2 else fget (flG gs) x) = some q.2.2.2
    by_cases h : g.1 = x
    · rw [if_pos h, if_pos h]
      exact .inr ⟨g, List.mem_cons_self, rfl, rfl⟩
    · rw [if_neg h, if_neg h]
      rcases ih with ih | ⟨q, hq, ih⟩
      · exact .inl ih
      · exact .inr ⟨q, List.mem_cons_of_mem _ hq, ih⟩
def beforeH (fl : List (Int × List S55)) : List Int → List S55
  | [] => []
  | p :: _ => (fget fl p).getD []
def okC (c : S28) : Bool := okV c.f0 && c.f1.all okV
def rightH (k : Nat) : List S28 → Int → List (Int × Int) → List (Int × List S55) → Option Int
  | [], _, _, _ => some 0
  | c :: cs, last, tm, fl => if okC c = true then (if oneG c last tm = 0 then (tree_Apply.f k (beforeH fl c.f1) c.f2).bind fun p => if p.2 = 0 then rightH k cs c.f0 ((c.f0, c.f3) :: tm) ((c.f0, p.1) :: fl) else some p.2 else some (oneG c last tm)) else none
theorem rightH_mono (k : Nat) : ∀ (cs : List S28) (last : Int) (tm : List (Int × Int)) (fl : List (Int × List S55)), LeO (rightH k cs last tm fl) (rightH (k + 1) cs last tm fl)
  | [], _, _, _ => LeO.refl _
  | c :: cs, last, tm, fl => LeO.ite (LeO.ite (LeO.bind (tree_Apply.mono _ _ _) (fun p => LeO.ite (rightH_mono k cs _ _ _) (LeO.refl _))) (LeO.refl _)) (LeO.refl _)
def history_Right.f (k : Nat) (l0 : List S28) : Option Int := if (64 : Int) < l0.length then some 4 else rightH k l0 0 [] []
theorem history_Right.mono : ∀ a0 k, LeO (history_Right.f k a0) (history_Right.f (k + 1) a0) := by
  intro a0 k
  unfold history_Right.f
  exact LeO.ite (LeO.refl _) (rightH_mono _ _ _ _ _)
theorem vm_update {P : Program} {ks t e : TypeId} {z : Value} {w : World} {b n : Nat} {m : MV} (h : VM P ks z w b n m) (K : Keyed P ks) (ht : P.underlying t = some (.map ks e)) (hn : n < maxLen) {key : Int} (val : Value) (hkey : keyOf P ks (.int .i64 key) = some (kI key)) :
    ∃ w', (Instr.mapUpdate t (.map (some b)) (.int .i64 key) val).run P w = .ok () w' ∧ VM P ks z w' b (n + 1) (vput m key val) ∧ w.grownBy w' (some b) := by
  obtain ⟨D, h1, h2⟩ := h
  obtain ⟨w', h3, h4, h5⟩ := h1.update K ht hn hkey (val := val) rfl
  exact ⟨w', h3, ⟨_, h4, h2.put h1.isMap key val⟩, h5⟩
theorem R_kept {α : Type} {d : Kd α} {e base : Nat} {w w1 : World} {v : Value} {xs : List α} {b : Nat} (h : d.R e w base (fun _ => True) v xs) (hg : w.grownBy w1 (some b)) (hb : b < base) : d.R e w1 base (fun _ => True) v xs :=
  Kd.R_mono (Kd.R_grown (Kd.R_bound h) hg (fun k hk e => by have := hk.2.1; have h9 : k = b := Option.some.inj e; omega)) (fun _ _ => trivial)
/-- What holds between the rounds. -/
structure RInv (w w' : World) (gs : GL) : Prop where
  f : VM Tryz.prog 3 (.slice none 0 0) w' w.heap.size gs.length (fvG gs)
  t : VM Tryz.prog 3 (.int .i64 0) w' (w.heap.size + 1) gs.length (tv (tmG gs))
  r : ∀ g ∈ gs, Kd.R k55 55 w' (w.heap.size + 2) (fun _ => True) g.2.2.1 g.2.2.2
  b : Below w.heap.size w w'
theorem RInv.below {w w1 w2 : World} {gs : GL} (h : RInv w w1 gs) (hb : Below w1.heap.size w1 w2) : RInv w w2 gs :=
  ⟨h.f.below hb, h.t.below hb, fun g hg => Kd.R_below (h.r g hg) hb, below_then h.b h.b.size hb⟩
theorem RInv.put {w w1 : World} {gs : GL} (h : RInv w w1 gs) (hn : gs.length < 1000) {x t : Int} (hx : okV x = true) {v : Value} {fl : List S55} (hv : Kd.R k55 55 w1 (w.heap.size + 2) (fun _ => True) v fl) :
    (∃ wa wb, (Instr.mapUpdate 56 (.map (some w.heap.size)) (.int .i64 x) v).run Tryz.prog w1 = .ok () wa ∧ (Instr.mapUpdate 57 (.map (some (w.heap.size + 1))) (.int .i64 x) (.int .i64 t)).run Tryz.prog wa = .ok () wb ∧ RInv w wb ((x, t, v, fl) :: gs) ∧ (∀ p : Addr, w.heap.size + 2 ≤ p.block → p.block < w1.heap.size → wa.cell? p = w1.cell? p ∧ wb.cell? p = w1.cell? p)) ∧
    (∃ wa wb, (Instr.mapUpdate 57 (.map (some (w.heap.size + 1))) (.int .i64 x) (.int .i64 t)).run Tryz.prog w1 = .ok () wa ∧ (Instr.mapUpdate 56 (.map (some w.heap.size)) (.int .i64 x) v).run Tryz.prog wa = .ok () wb ∧ RInv w wb ((x, t, v, fl) :: gs) ∧ (∀ p : Addr, w.heap.size + 2 ≤ p.block → p.block < w1.heap.size → wa.cell? p = w1.cell? p ∧ wb.cell? p = w1.cell? p)) := by
  have hm : gs.length < maxLen := by unfold maxLen; omega
  have hbb : ∀ {W1 W2 : World} {b : Nat}, Below w.heap.size w W1 → W1.grownBy W2 (some b) → w.heap.size ≤ b → Below w.heap.size w W2 := fun h1 h2 h3 => h1.grown h2 h1.size (fun k hk => by have h9 := Option.some.inj hk; omega)
  have hce : ∀ {W1 W2 : World} {b : Nat}, W1.grownBy W2 (some b) → b < w.heap.size + 2 → ∀ p : Addr, w.heap.size + 2 ≤ p.block → p.block < W1.heap.size → W2.cell? p = W1.cell? p := fun h1 h2 p h3 h4 => World.cell?_of_block (h1.block _ h4 (fun e => by have h9 := Option.some.inj e; omega))
  constructor
  · obtain ⟨wa, h1, h2, h3⟩ := vm_update h.f lawI Tryz.underlying56 hm v (keyI_ok hx)
    obtain ⟨wb, h4, h5, h6⟩ := vm_update (h.t.grown h3 (by simp)) lawI Tryz.underlying57 hm (.int .i64 t) (keyI_ok hx)
    refine ⟨wa, wb, h1, h4, ⟨h2.grown h6 (by simp), h5, fun g hg => ?_, hbb (hbb h.b h3 (by omega)) h6 (by omega)⟩, fun p p1 p2 => ⟨hce h3 (by omega) p p1 p2, (hce h6 (by omega) p p1 (Nat.lt_of_lt_of_le p2 h3.size)).trans (hce h3 (by omega) p p1 p2)⟩⟩
    rcases List.mem_cons.1 hg with rfl | hg
    · exact R_kept (R_kept hv h3 (by omega)) h6 (by omega)
    · exact R_kept (R_kept (h.r g hg) h3 (by omega)) h6 (by omega)
  · obtain ⟨wa, h1, h2, h3⟩ := vm_update h.t lawI Tryz.underlying57 hm (.int .i64 t) (keyI_ok hx)
    obtain ⟨wb, h4, h5, h6⟩ := vm_update (h.f.grown h3 (by simp)) lawI Tryz.underlying56 hm v (keyI_ok hx)
    refine ⟨wa, wb, h1, h4, ⟨h5, h2.grown h6 (by simp), fun g hg => ?_, hbb (hbb h.b h3 (by omega)) h6 (by omega)⟩, fun p p1 p2 => ⟨hce h3 (by omega) p p1 p2, (hce h6 (by omega) p p1 (Nat.lt_of_lt_of_le p2 h3.size)).trans (hce h3 (by omega) p p1 p2)⟩⟩
    rcases List.mem_cons.1 hg with rfl | hg
    · exact R_kept (R_kept hv h3 (by omega)) h6 (by omega)
    · exact R_kept (R_kept (h.r g hg) h3 (by omega)) h6 (by omega)
theorem RInv.drew {w w1 : World} {gs : GL} (h : RInv w w1 gs) : RInv w w1.drew gs := h.below (below_drew (Below.refl _ _))
set_option maxHeartbeats 4000000 in
set_option maxRecDepth 100000 in
theorem history_Right.calls (k : Nat) (A0 : Option Addr) (c0 : Nat) (l0 : List (S28)) (r : Int) (w : World) (aR : Kd.C k28 w A0 l0.length l0) (aL : l0.length ≤ c0) (h : history_Right.f k l0 = some r) :
    Calls Tryz.prog 14 #[.slice A0 l0.length c0] w fun e w' => e = .returned (.int .i64 r) ∧ Below w.heap.size w w' := by
  unfold history_Right.f at h
  by_cases aG : (64 : Int) < (l0.length : Int)
  · rw [if_pos aG] at h
    obtain rfl := Option.some.inj h
    have c1 : decide ((64 : Int) < (l0.length : Int)) = true := decide_eq_true aG
    clear aR aL h aG
    go_enter Tryz.func14, Tryz.ntmps14
    go_wp2
    go_ret
    exact ⟨rfl, Below.refl _ _⟩
  rw [if_neg aG] at h
  have c1 : decide ((64 : Int) < (l0.length : Int)) = false := decide_eq_false aG
  have a1 := aK aR
  have HL := aK (show l0.length ≤ 64 by omega)
  have H := aK h
  clear h aR aL aG
  have hmm := @run_makeMap Tryz.prog
  go_enter Tryz.func14, Tryz.ntmps14
  go_wp2_with fail
  go_loopg [5, 19] l0.length (fun kq v5 a2 w' => ∃ (i : Nat) (last : Int) (gs : GL), a2 = .int .i64 (i : Int) ∧ v5 = .int .i64 last ∧ Aside0 (i ≤ l0.length ∧ l0.length - i ≤ kq ∧ gs.length ≤ i) ∧ Aside0 (rightH k (l0.drop i) last (tmG gs) (flG gs) = some r) ∧ Aside0 (RInv w w' gs))
  case atStart =>
    refine ⟨0, 0, [], rfl, rfl, ⟨Nat.zero_le _, by omega, Nat.le_refl _⟩, ⟨by rw [List.drop_zero]; exact H.out⟩, ⟨⟨?_, ?_, (fun g hg => nomatch hg), ?_⟩⟩⟩
    · exact (VM.made w).below (below_alloc (Below.refl _ _) _)
    · have := VM.made (P := Tryz.prog) (ks := 3) (z := .int .i64 0) (w.alloc (Obj.map #[] 0))
      rw [show (w.alloc (Obj.map #[] 0)).heap.size = w.heap.size + 1 by simp] at this
      exact this
    · exact below_alloc (below_alloc (Below.refl _ _) _) _
  case round =>
    obtain ⟨i, last, gs, rfl, rfl, HK, HA, HI⟩ := hrel
    clear c1
    by_cases hlt : i < l0.length
    · cases gk with
      | zero => exfalso; have := HK.out; omega
      | succ k1 =>
        have c1 : decide ((i : Int) < (l0.length : Int)) = true := decide_eq_true (by omega)
        obtain ⟨ad, A1, c1_, A2, c2_, e, aj, ak, al, am, an, aS, aM, aN, aO⟩ := at_T28 a1.out (i : Int) (by omega) (by omega)
        subst e
        rw [rdC_nat l0 i hlt] at aj ak al am an aS aM aN aO
        rw [Int.toNat_natCast] at aj ak al am an
        replace aj := (HI.out.b.cell (World.block_lt_of_cell? w _ aj)).trans aj
        replace ak := (HI.out.b.cell (World.block_lt_of_cell? w _ ak)).trans ak
        replace al := (HI.out.b.cell (World.block_lt_of_cell? w _ al)).trans al
        replace am := (HI.out.b.cell (World.block_lt_of_cell? w _ am)).trans am
        replace an := (HI.out.b.cell (World.block_lt_of_cell? w _ an)).trans an
        have p : (0 ≤ (i : Int)) = True := eq_true (by omega)
        have q : ((i : Int) < (l0.length : Int)) = True := eq_true (by omega)
        have hA := HA.out
        rw [List.drop_eq_getElem_cons hlt, rightH] at hA
        generalize l0[i] = c at aj ak al am an aS aM aN aO hA
        split at hA
        case isFalse => cases hA
        rename_i hok
        rw [okC, Bool.and_eq_true] at hok
        generalize aH : wr.alloc (Obj.cells #[Value.int .i64 c.f0, .slice A1 c.f1.length c1_, .slice A2 c.f2.length c2_, .int .i64 c.f3, .int .i64 c.f4] 28) = W1
        have aW : Below wr.heap.size wr W1 := by rw [← aH]; exact below_alloc (Below.refl _ _) _
        have ab : W1.cell? ⟨wr.heap.size, 0, none⟩ = some (.int .i64 c.f0) := by rw [← aH]; simp
        have av : W1.cell? ⟨wr.heap.size, 1, none⟩ = some (.slice A1 c.f1.length c1_) := by rw [← aH]; simp
        have aw : W1.cell? ⟨wr.heap.size, 2, none⟩ = some (.slice A2 c.f2.length c2_) := by rw [← aH]; simp
        have ac : W1.cell? ⟨wr.heap.size, 3, none⟩ = some (.int .i64 c.f3) := by rw [← aH]; simp
        have aX : W1.cell? ⟨wr.heap.size, 4, none⟩ = some (.int .i64 c.f4) := by rw [← aH]; simp
        have aP := HI.out.below aW
        have HS := aK (show w.heap.size + 2 ≤ wr.heap.size by have := HI.out.t.lt; omega)
        have HP := aK (And.intro (Kd.C_below aM aP.b) (And.intro (Kd.C_below aO aP.b) (And.intro aN hok)))
        have az := aK aP
        have HC := aK (And.intro ab (And.intro av (And.intro aw (And.intro ac aX))))
        have hcl := aK (one_calls (last := last) (c1_ := c1_) (A2 := A2) (c2_ := c2_) HP.out.1 az.out.t hok.2)
        clear aS aM aN aO hok aW aP HI HA
        by_cases he : oneG c last (tmG gs) = 0
        · rw [if_pos he] at hA
          rw [he] at hcl
          obtain ⟨pr, h3, h4⟩ := Option.bind_eq_some_iff.1 hA
          obtain ⟨nf, e2⟩ := pr
          dsimp only at h4
          have HAP := aK h3
          clear hA h3 he
          by_cases hp : c.f1.length = 0
          · have aA : c.f1 = [] := List.eq_nil_of_length_eq_zero hp
            rw [aA] at HAP
            clear aA
            have c2 : decide ((0 : Int) < (c.f1.length : Int)) = false := decide_eq_false (by omega)
            have c3 : decide (0 < c.f1.length) = false := decide_eq_false (by omega)
            clear hp
            by_cases aB : e2 = 0
            · subst aB
              rw [if_pos rfl] at h4
              have HN := aK h4
              clear h4
              go_wp2_with (first
                | (go_at_call 36
                   refine hcl.out.mono ?_
                   rintro e w3 ⟨rfl, aa⟩
                   have ab := pw_cell_below aa HC.out.1
                   have av := pw_cell_below aa HC.out.2.1
                   have aw := pw_cell_below aa HC.out.2.2.1
                   have ac := pw_cell_below aa HC.out.2.2.2.1
                   have ao := aK (And.intro ab ac)
                   have ae := aK (az.out.below aa)
                   have af := aK (Kd.C_below HP.out.2.1 aa)
                   have ag := aK (show wr.heap.size < w3.heap.size by have := aa.size; have := World.block_lt_of_cell? W1 _ HC.out.1; simp only at this; omega)
                   clear aa hcl aj ak al am an
                   have ax := ae; have aC := af; have ap := ag; clear ae af ag)
                | (go_at_call 37
                   refine (tree_Apply.calls k none 0 [] A2 c2_ c.f2 nf _ w3 (Kd.C_nil k55 w3) (Nat.le_refl _) aC.out HP.out.2.2.1 HAP.out).mono ?_
                   rintro e w4 ⟨v4, rfl, aq, ah⟩
                   have ab := pw_cell_below ah ao.out.1
                   have ac := pw_cell_below ah ao.out.2
                   have ae := aK (ax.out.below ah)
                   have af := aK (Kd.R_lower aq (show w.heap.size + 2 ≤ w3.heap.size by have := HS.out; have := ap.out; omega))
                   have ag := aK (show wr.heap.size < w4.heap.size by have := ah.size; have := ap.out; omega)
                   have aD := aK (And.intro ab ac)
                   clear ah aq av aw ab ac
                   have aE := ae; have ay := af; have ai := ag; clear ae af ag
                   obtain ⟨A4, c4, rfl⟩ := Kd.R_slice ay.out))
              have ab : w4.drew.cell? ⟨wr.heap.size, 0, none⟩ = some (.int .i64 c.f0) := aD.out.1
              have ac : w4.drew.cell? ⟨wr.heap.size, 3, none⟩ = some (.int .i64 c.f3) := aD.out.2
              obtain ⟨⟨wa, wb, r1, r2, hF, ar⟩, ⟨wc, wd, r3, r4, aJ, au⟩⟩ := RInv.put aE.out.drew (by have := HK.out; have := HL.out; omega) (t := c.f3) HP.out.2.2.2.1 (Kd.R_drew ay.out)
              have a3 : wa.cell? ⟨wr.heap.size, 0, none⟩ = some (.int .i64 c.f0) := (ar _ HS.out ai.out).1.trans ab
              have a4 : wa.cell? ⟨wr.heap.size, 3, none⟩ = some (.int .i64 c.f3) := (ar _ HS.out ai.out).1.trans ac
              have a5 : wb.cell? ⟨wr.heap.size, 0, none⟩ = some (.int .i64 c.f0) := (ar _ HS.out ai.out).2.trans ab
              have aa : wb.cell? ⟨wr.heap.size, 3, none⟩ = some (.int .i64 c.f3) := (ar _ HS.out ai.out).2.trans ac
              have aL : wc.cell? ⟨wr.heap.size, 0, none⟩ = some (.int .i64 c.f0) := (au _ HS.out ai.out).1.trans ab
              have a6 : wc.cell? ⟨wr.heap.size, 3, none⟩ = some (.int .i64 c.f3) := (au _ HS.out ai.out).1.trans ac
              have a7 : wd.cell? ⟨wr.heap.size, 0, none⟩ = some (.int .i64 c.f0) := (au _ HS.out ai.out).2.trans ab
              have a8 : wd.cell? ⟨wr.heap.size, 3, none⟩ = some (.int .i64 c.f3) := (au _ HS.out ai.out).2.trans ac
              have HFA := aK hF
              have HFB := aK aJ
              clear hF aJ ar au
              go_region_held3 (fun w' => w'.cell? ⟨wr.heap.size, 0, none⟩ = some (.int .i64 c.f0) ∧ w'.cell? ⟨wr.heap.size, 3, none⟩ = some (.int .i64 c.f3))
                (first
                  | exact ⟨by assumption, by assumption⟩
                  | exact ⟨by go_keep, by go_keep⟩)
                (fail)
              all_goals (go_wp2; go_roundg k1; (case measure => omega); (case rel => exact ⟨i + 1, c.f0, (c.f0, c.f3, .slice A4 nf.length c4, nf) :: gs, by rw [w_incV_ i (by have := HL.out; omega)], rfl, ⟨by omega, by have := HK.out; omega, by have := HK.out; rw [List.length_cons]; omega⟩, HN, by first | exact HFA | exact HFB⟩))
            · rw [if_neg aB] at h4
              obtain rfl := Option.some.inj h4
              have a9 : (e2 != 0) = true := by simpa using aB
              clear h4
              go_wp2_with (first
                | (go_at_call 36
                   refine hcl.out.mono ?_
                   rintro e w3 ⟨rfl, aa⟩
                   have ab := pw_cell_below aa HC.out.1
                   have av := pw_cell_below aa HC.out.2.1
                   have aw := pw_cell_below aa HC.out.2.2.1
                   have ac := pw_cell_below aa HC.out.2.2.2.1
                   have ao := aK (And.intro ab ac)
                   have ae := aK (az.out.below aa)
                   have af := aK (Kd.C_below HP.out.2.1 aa)
                   have ag := aK (show wr.heap.size < w3.heap.size by have := aa.size; have := World.block_lt_of_cell? W1 _ HC.out.1; simp only at this; omega)
                   clear aa hcl aj ak al am an
                   have ax := ae; have aC := af; have ap := ag; clear ae af ag)
                | (go_at_call 37
                   refine (tree_Apply.calls k none 0 [] A2 c2_ c.f2 nf _ w3 (Kd.C_nil k55 w3) (Nat.le_refl _) aC.out HP.out.2.2.1 HAP.out).mono ?_
                   rintro e w4 ⟨v4, rfl, aq, ah⟩
                   have ab := pw_cell_below ah ao.out.1
                   have ac := pw_cell_below ah ao.out.2
                   have ae := aK (ax.out.below ah)
                   have af := aK (Kd.R_lower aq (show w.heap.size + 2 ≤ w3.heap.size by have := HS.out; have := ap.out; omega))
                   have ag := aK (show wr.heap.size < w4.heap.size by have := ah.size; have := ap.out; omega)
                   have aD := aK (And.intro ab ac)
                   clear ah aq av aw ab ac
                   have aE := ae; have ay := af; have ai := ag; clear ae af ag
                   obtain ⟨A4, c4, rfl⟩ := Kd.R_slice ay.out))
              go_ret
              exact ⟨rfl, aE.out.b⟩
          · have hne : c.f1 ≠ [] := fun e => hp (by rw [e]; rfl)
            obtain ⟨p0, ps, aA⟩ := List.exists_cons_of_ne_nil hne
            clear hne
            have c2 : decide ((0 : Int) < (c.f1.length : Int)) = true := decide_eq_true (by omega)
            have c3 : decide (0 < c.f1.length) = true := decide_eq_true (by omega)
            have bb : (0 < c.f1.length) = True := eq_true (by omega)
            have bc : ((0 : Int) < (c.f1.length : Int)) = True := eq_true (by omega)
            obtain ⟨ba, e3, hz⟩ := int_cell_ HP.out.1 0 (by omega)
            subst e3
            have aY : c.f1[0] = p0 := by simp [aA]
            rw [aY] at hz
            have aI : W1.cell? ba = some (.int .i64 p0) := by rw [← hz]; simp [Addr.add]
            have HZ := aK aI
            have hkp := keyI_ok (List.all_eq_true.1 HP.out.2.2.2.2 p0 (by rw [aA]; exact List.mem_cons_self))
            have HKP := aK hkp
            have hlk := gget_is gs p0
            rw [aA] at HAP
            have HAP := aK (show tree_Apply.f k ((fget (flG gs) p0).getD []) c.f2 = some (nf, e2) from HAP.out)
            clear hz aY hkp
            have aQ : ∃ A9 c9, (vget (fvG gs) p0).getD (.slice none 0 0) = .slice A9 ((fget (flG gs) p0).getD []).length c9 ∧ ((fget (flG gs) p0).getD []).length ≤ c9 ∧ Kd.C k55 W1 A9 ((fget (flG gs) p0).getD []).length ((fget (flG gs) p0).getD []) := by
              rcases hlk with ⟨h5, h6⟩ | ⟨g, hg, h5, h6⟩
              · rw [h5, h6]
                exact ⟨none, 0, rfl, Nat.le_refl _, Kd.C_nil _ _⟩
              · rw [h5, h6]
                simp only [Option.getD_some]
                have h7 := az.out.r g hg
                obtain ⟨A9, c9, h8⟩ := Kd.R_slice h7
                rw [h8] at h7
                exact ⟨A9, c9, h8, (Kd.R_reads' h7).2.1, (Kd.R_reads' h7).2.2⟩
            obtain ⟨A9, c9, aQ, aZ, a0⟩ := aQ
            have aT := aK a0
            have aU := aK aZ
            have aV := aK aQ
            generalize (fget (flG gs) p0).getD [] = f9 at HAP aT aU aV
            clear hlk aQ aZ a0 hp aA
            by_cases aB : e2 = 0
            · subst aB
              rw [if_pos rfl] at h4
              have HN := aK h4
              clear h4
              go_wp2_with (first
                | (go_at_call 36
                   refine hcl.out.mono ?_
                   rintro e w3 ⟨rfl, aa⟩
                   have ab := pw_cell_below aa HC.out.1
                   have av := pw_cell_below aa HC.out.2.1
                   have aw := pw_cell_below aa HC.out.2.2.1
                   have ac := pw_cell_below aa HC.out.2.2.2.1
                   have ao := aK (And.intro ab ac)
                   have aI := pw_cell_below aa HZ.out
                   have aF := aK (Kd.C_below aT.out aa)
                   have ae := aK (az.out.below aa)
                   have af := aK (Kd.C_below HP.out.2.1 aa)
                   have ag := aK (show wr.heap.size < w3.heap.size by have := aa.size; have := World.block_lt_of_cell? W1 _ HC.out.1; simp only at this; omega)
                   clear aa hcl aj ak al am an
                   have ax := ae; have aC := af; have ap := ag; clear ae af ag)
                | (at_lookup
                   refine wpList_lookup_V _ rfl _ _ 56 rfl 3 35 lawI Tryz.underlying56 (Tryz.zeroValue35 _) w.heap.size gs.length (fvG gs) rfl ax.out.f p0 rfl HKP.out ?_
                   rw [aV.out])
                | (go_at_call 37
                   refine (tree_Apply.calls k A9 c9 f9 A2 c2_ c.f2 nf _ w3 (aF.out) aU.out aC.out HP.out.2.2.1 HAP.out).mono ?_
                   rintro e w4 ⟨v4, rfl, aq, ah⟩
                   have ab := pw_cell_below ah ao.out.1
                   have ac := pw_cell_below ah ao.out.2
                   have ae := aK (ax.out.below ah)
                   have af := aK (Kd.R_lower aq (show w.heap.size + 2 ≤ w3.heap.size by have := HS.out; have := ap.out; omega))
                   have ag := aK (show wr.heap.size < w4.heap.size by have := ah.size; have := ap.out; omega)
                   have aD := aK (And.intro ab ac)
                   clear ah aq av aw ab ac aI
                   have aE := ae; have ay := af; have ai := ag; clear ae af ag
                   obtain ⟨A4, c4, rfl⟩ := Kd.R_slice ay.out))
              have ab : w4.drew.cell? ⟨wr.heap.size, 0, none⟩ = some (.int .i64 c.f0) := aD.out.1
              have ac : w4.drew.cell? ⟨wr.heap.size, 3, none⟩ = some (.int .i64 c.f3) := aD.out.2
              obtain ⟨⟨wa, wb, r1, r2, hF, ar⟩, ⟨wc, wd, r3, r4, aJ, au⟩⟩ := RInv.put aE.out.drew (by have := HK.out; have := HL.out; omega) (t := c.f3) HP.out.2.2.2.1 (Kd.R_drew ay.out)
              have a3 : wa.cell? ⟨wr.heap.size, 0, none⟩ = some (.int .i64 c.f0) := (ar _ HS.out ai.out).1.trans ab
              have a4 : wa.cell? ⟨wr.heap.size, 3, none⟩ = some (.int .i64 c.f3) := (ar _ HS.out ai.out).1.trans ac
              have a5 : wb.cell? ⟨wr.heap.size, 0, none⟩ = some (.int .i64 c.f0) := (ar _ HS.out ai.out).2.trans ab
              have aa : wb.cell? ⟨wr.heap.size, 3, none⟩ = some (.int .i64 c.f3) := (ar _ HS.out ai.out).2.trans ac
              have aL : wc.cell? ⟨wr.heap.size, 0, none⟩ = some (.int .i64 c.f0) := (au _ HS.out ai.out).1.trans ab
              have a6 : wc.cell? ⟨wr.heap.size, 3, none⟩ = some (.int .i64 c.f3) := (au _ HS.out ai.out).1.trans ac
              have a7 : wd.cell? ⟨wr.heap.size, 0, none⟩ = some (.int .i64 c.f0) := (au _ HS.out ai.out).2.trans ab
              have a8 : wd.cell? ⟨wr.heap.size, 3, none⟩ = some (.int .i64 c.f3) := (au _ HS.out ai.out).2.trans ac
              have HFA := aK hF
              have HFB := aK aJ
              clear hF aJ ar au
              go_region_held3 (fun w' => w'.cell? ⟨wr.heap.size, 0, none⟩ = some (.int .i64 c.f0) ∧ w'.cell? ⟨wr.heap.size, 3, none⟩ = some (.int .i64 c.f3))
                (first
                  | exact ⟨by assumption, by assumption⟩
                  | exact ⟨by go_keep, by go_keep⟩)
                (fail)
              all_goals (go_wp2; go_roundg k1; (case measure => omega); (case rel => exact ⟨i + 1, c.f0, (c.f0, c.f3, .slice A4 nf.length c4, nf) :: gs, by rw [w_incV_ i (by have := HL.out; omega)], rfl, ⟨by omega, by have := HK.out; omega, by have := HK.out; rw [List.length_cons]; omega⟩, HN, by first | exact HFA | exact HFB⟩))
            · rw [if_neg aB] at h4
              obtain rfl := Option.some.inj h4
              have a9 : (e2 != 0) = true := by simpa using aB
              clear h4
              go_wp2_with (first
                | (go_at_call 36
                   refine hcl.out.mono ?_
                   rintro e w3 ⟨rfl, aa⟩
                   have ab := pw_cell_below aa HC.out.1
                   have av := pw_cell_below aa HC.out.2.1
                   have aw := pw_cell_below aa HC.out.2.2.1
                   have ac := pw_cell_below aa HC.out.2.2.2.1
                   have ao := aK (And.intro ab ac)
                   have aI := pw_cell_below aa HZ.out
                   have aF := aK (Kd.C_below aT.out aa)
                   have ae := aK (az.out.below aa)
                   have af := aK (Kd.C_below HP.out.2.1 aa)
                   have ag := aK (show wr.heap.size < w3.heap.size by have := aa.size; have := World.block_lt_of_cell? W1 _ HC.out.1; simp only at this; omega)
                   clear aa hcl aj ak al am an
                   have ax := ae; have aC := af; have ap := ag; clear ae af ag)
                | (at_lookup
                   refine wpList_lookup_V _ rfl _ _ 56 rfl 3 35 lawI Tryz.underlying56 (Tryz.zeroValue35 _) w.heap.size gs.length (fvG gs) rfl ax.out.f p0 rfl HKP.out ?_
                   rw [aV.out])
                | (go_at_call 37
                   refine (tree_Apply.calls k A9 c9 f9 A2 c2_ c.f2 nf _ w3 (aF.out) aU.out aC.out HP.out.2.2.1 HAP.out).mono ?_
                   rintro e w4 ⟨v4, rfl, aq, ah⟩
                   have ab := pw_cell_below ah ao.out.1
                   have ac := pw_cell_below ah ao.out.2
                   have ae := aK (ax.out.below ah)
                   have af := aK (Kd.R_lower aq (show w.heap.size + 2 ≤ w3.heap.size by have := HS.out; have := ap.out; omega))
                   have ag := aK (show wr.heap.size < w4.heap.size by have := ah.size; have := ap.out; omega)
                   have aD := aK (And.intro ab ac)
                   clear ah aq av aw ab ac aI
                   have aE := ae; have ay := af; have ai := ag; clear ae af ag
                   obtain ⟨A4, c4, rfl⟩ := Kd.R_slice ay.out))
              go_ret
              exact ⟨rfl, aE.out.b⟩
        · rw [if_neg he] at hA
          obtain rfl := Option.some.inj hA
          have aI : (oneG c last (tmG gs) != 0) = true := by simpa using he
          clear hA
          go_wp2_with (first
            | (go_at_call 36
               refine hcl.out.mono ?_
               rintro e w3 ⟨rfl, aa⟩
               have HB := aK (below_then az.out.b az.out.b.size aa)
               clear aa hcl aj ak al am an ab av aw ac aX))
          go_ret
          exact ⟨rfl, HB.out⟩
    · have c1 : decide ((i : Int) < (l0.length : Int)) = false := decide_eq_false (by omega)
      have hA := HA.out
      rw [List.drop_of_length_le (by omega), rightH] at hA
      obtain rfl := Option.some.inj hA
      clear hA
      go_wp2
      go_ret
      exact ⟨rfl, HI.out.b⟩

end Go.Proofs.YtgadbpljlpclnaaGreatDoor.H
