import Derived.Test.YtmgliocboeifdaaGreatDoorFx0
import Derived.Test.YtmgliocboeifdaaGreatDoorFx1
import Derived.Test.YtmgliocboeifdaaGreatDoorFx2
namespace Go.Proofs.YtmgliocboeifdaaGreatDoor.F
open Go.RowKit Go.Proofs.YtmgliocboeifdaaGreatDoorW.PrintWords Go.Proofs.YtmgliocboeifdaaGreatDoorW.PrintLast Go.Proofs.YtmgliocboeifdaaGreatDoorW.PrintMore
set_option maxHeartbeats 4000000
set_option maxRecDepth 100000
attribute [local go_sem] max2_int min2_int max_two min_two max_three min_three max_four min_four
set_option linter.unusedVariables false
set_option linter.unusedSimpArgs false
structure DS (w W : World) (A : Option Addr) (c : Nat) (b : List Int) (at_ first : Int) : Prop where
  bel : Below w.heap.size w W
  bb : W.heap[w.heap.size]? = some (.cells #[.slice A b.length c] 31 (0, 0))
  ba : W.heap[w.heap.size + 2]? = some (.cells #[.int .i64 at_] 3 (0, 0))
  bf : W.heap[w.heap.size + 3]? = some (.cells #[.int .i64 first] 25 (0, 0))
  br : W.heap[w.heap.size + 4]? = some (.cells #[.func (.func 29) #[] #[.pointer (some ⟨w.heap.size + 3, 0, none⟩), .pointer (some ⟨w.heap.size + 2, 0, none⟩)]] 53 (0, 0))
  rd : Kd.C (Kd.int .u8) w A b.length b
  le : b.length ≤ c
section
variable {w W W1 : World} {A : Option Addr} {c : Nat} {b : List Int} {at_ first : Int}
theorem DS.size (h : DS w W A c b at_ first) : w.heap.size + 4 < W.heap.size := (Array.getElem?_eq_some_iff.1 h.br).1
theorem DS.same (h : DS w W A c b at_ first) (hb : Below w.heap.size w W1) (hs : ∀ i, w.heap.size ≤ i → i ≤ w.heap.size + 4 → W1.heap[i]? = W.heap[i]?) : DS w W1 A c b at_ first :=
  ⟨hb, (hs _ (by omega) (by omega)).trans h.bb, (hs _ (by omega) (by omega)).trans h.ba, (hs _ (by omega) (by omega)).trans h.bf, (hs _ (by omega) (by omega)).trans h.br, h.rd, h.le⟩
theorem DS.below (h : DS w W A c b at_ first) (hb : Below W.heap.size W W1) : DS w W1 A c b at_ first :=
  h.same (below_then h.bel h.bel.size hb) (fun i _ h2 => hb.block i (by have := h.size; omega))
theorem DS.far (h : DS w W A c b at_ first) {g o : Nat} (hg : w.heap.size + 4 < g) (u : Value) : DS w (W.setCell ⟨g, o, none⟩ u) A c b at_ first :=
  h.same (h.bel.setCell (p := ⟨g, o, none⟩) (by show w.heap.size ≤ g; omega) u) (fun i _ h2 => Below.heap_setCell _ _ _ _ (by show i ≠ g; omega))
theorem DS.setAt (h : DS w W A c b at_ first) (x : Int) : DS w (W.setCell ⟨w.heap.size + 2, 0, none⟩ (.int .i64 x)) A c b x first := by
  have hf : ∀ i, i ≠ w.heap.size + 2 → (W.setCell ⟨w.heap.size + 2, 0, none⟩ (.int .i64 x)).heap[i]? = W.heap[i]? := fun i hi => Below.heap_setCell _ _ _ _ hi
  exact ⟨h.bel.setCell (p := ⟨w.heap.size + 2, 0, none⟩) (Nat.le_add_right _ _) _, (hf _ (by omega)).trans h.bb, blk_put h.ba 0 _ rfl, (hf _ (by omega)).trans h.bf, (hf _ (by omega)).trans h.br, h.rd, h.le⟩
theorem DS.setFirst (h : DS w W A c b at_ first) (x : Int) : DS w (W.setCell ⟨w.heap.size + 3, 0, none⟩ (.int .i64 x)) A c b at_ x := by
  have hf : ∀ i, i ≠ w.heap.size + 3 → (W.setCell ⟨w.heap.size + 3, 0, none⟩ (.int .i64 x)).heap[i]? = W.heap[i]? := fun i hi => Below.heap_setCell _ _ _ _ hi
  exact ⟨h.bel.setCell (p := ⟨w.heap.size + 3, 0, none⟩) (Nat.le_add_right _ _) _, (hf _ (by omega)).trans h.bb, (hf _ (by omega)).trans h.ba, blk_put h.bf 0 _ rfl, (hf _ (by omega)).trans h.br, h.rd, h.le⟩
end
def Kp (w W W1 : World) : Prop := W.heap.size ≤ W1.heap.size ∧ ∀ i, i < W.heap.size → i ≠ w.heap.size + 2 → i ≠ w.heap.size + 3 → W1.heap[i]? = W.heap[i]?
set_option maxHeartbeats 2000000 in
theorem read_skip {w W : World} {A : Option Addr} {c : Nat} {b : List Int} {at_ first : Int} (h : DS w W A c b at_ first) (hf : first ≠ 0) (fv : Value) :
    Calls Tryz.prog 29 #[fv, .pointer (some ⟨w.heap.size + 3, 0, none⟩), .pointer (some ⟨w.heap.size + 2, 0, none⟩)] W fun e w' => e = .returned (.tuple #[]) ∧ w' = W := by
  have hcf := (blk_cell h.bf 0).trans rfl
  have hne : (first != 0) = true := by simpa using hf
  clear h
  go_enter Tryz.func29, Tryz.ntmps29
  go_wp2
  first | go_end0 | ((try simp only [Exit.inBlock, Exit.then]); go_end0) | (refine bodyPost_ret (results_none rfl _ _ _) rfl ?_)
  exact ⟨rfl, rfl⟩
set_option maxHeartbeats 2000000 in
theorem read_go31 {w W : World} {A : Option Addr} {c : Nat} {b : List Int} {at_ : Int} (h : DS w W A c b at_ 0) (p1 p2 p3 : Value) (nx ee : Int) (Post : World → Prop)
    (hg : Calls Tryz.prog 31 #[p1, p2, p3] W fun e w1 => e = .returned (.tuple #[.int .i64 nx, .int .i64 ee]) ∧ Post w1) (hP : ∀ w1, Post w1 → DS w w1 A c b at_ 0) :
    Calls Tryz.prog 29 #[.func (.func 31) #[] #[p1, p2, p3], .pointer (some ⟨w.heap.size + 3, 0, none⟩), .pointer (some ⟨w.heap.size + 2, 0, none⟩)] W fun e w' => e = .returned (.tuple #[]) ∧ ∃ w1, Post w1 ∧ w' = if ee = 0 then w1.setCell ⟨w.heap.size + 2, 0, none⟩ (.int .i64 nx) else w1.setCell ⟨w.heap.size + 3, 0, none⟩ (.int .i64 ee) := by
  have hcf := (blk_cell h.bf 0).trans rfl
  have HG := aK hg
  have HP := aK hP
  clear h hg hP
  go_enter Tryz.func29, Tryz.ntmps29
  go_wp2_with fail
  go_at_call 31
  refine HG.out.mono ?_
  rintro e w1 ⟨rfl, hp⟩
  clear HG
  have hd := HP.out w1 hp
  have HQ := aK hp
  clear HP hp
  have hcf1 := (blk_cell hd.bf 0).trans rfl
  have hca1 := (blk_cell hd.ba 0).trans rfl
  have hzf := blk_frozen hd.bf 0
  have hza := blk_frozen hd.ba 0
  clear hcf hd
  by_cases he : ee = 0
  · subst he
    go_wp2
    first | go_end0 | ((try simp only [Exit.inBlock, Exit.then]); go_end0) | (refine bodyPost_ret (results_none rfl _ _ _) rfl ?_)
    exact ⟨rfl, w1, HQ.out, by first | rfl | rw [if_pos rfl]⟩
  · have hne : (ee != 0) = true := by simpa using he
    go_wp2
    first | go_end0 | ((try simp only [Exit.inBlock, Exit.then]); go_end0) | (refine bodyPost_ret (results_none rfl _ _ _) rfl ?_)
    exact ⟨rfl, w1, HQ.out, by first | rfl | rw [if_neg he]⟩
theorem Kp.refl (w W : World) : Kp w W W := ⟨Nat.le_refl _, fun _ _ _ _ => rfl⟩
theorem Kp.trans {w W W1 W2 : World} (h : Kp w W W1) (h2 : Kp w W1 W2) : Kp w W W2 := ⟨Nat.le_trans h.1 h2.1, fun i hi h3 h4 => (h2.2 i (Nat.lt_of_lt_of_le hi h.1) h3 h4).trans (h.2 i hi h3 h4)⟩
theorem Kp.below {w W W1 : World} (h : Below W.heap.size W W1) : Kp w W W1 := ⟨h.size, fun i hi _ _ => h.block i hi⟩
theorem Kp.setAt {w W W1 : World} (h : Kp w W W1) (u : Value) : Kp w W (W1.setCell ⟨w.heap.size + 2, 0, none⟩ u) := ⟨by have := h.1; simpa [World.setCell] using this, fun i hi h3 h4 => (Below.heap_setCell _ _ _ _ h3).trans (h.2 i hi h3 h4)⟩
theorem Kp.setFirst {w W W1 : World} (h : Kp w W W1) (u : Value) : Kp w W (W1.setCell ⟨w.heap.size + 3, 0, none⟩ u) := ⟨by have := h.1; simpa [World.setCell] using this, fun i hi h3 h4 => (Below.heap_setCell _ _ _ _ h4).trans (h.2 i hi h3 h4)⟩
theorem Kp.setNew {w W W1 : World} (h : Kp w W W1) {g o : Nat} (hg : W.heap.size ≤ g) (u : Value) : Kp w W (W1.setCell ⟨g, o, none⟩ u) := ⟨by have := h.1; simpa [World.setCell] using this, fun i hi h3 h4 => (Below.heap_setCell _ _ _ _ (by show i ≠ g; omega)).trans (h.2 i hi h3 h4)⟩
set_option maxHeartbeats 2000000 in
theorem c31 {w W : World} {A : Option Addr} {c : Nat} {b : List Int} {at_ : Int} (k : Nat) (h : DS w W A c b at_ 0) {q : Nat} (hbox : W.heap[q]? = some (.cells #[.int .i64 0] 3 (0, 0))) {r1 r2 r3 : Int} (hget : varint_Get.f k b at_ = some (r1, r2, r3)) :
    Calls Tryz.prog 31 #[.pointer (some ⟨w.heap.size, 0, none⟩), .pointer (some ⟨w.heap.size + 2, 0, none⟩), .pointer (some ⟨q, 0, none⟩)] W fun e w1 => e = .returned (.tuple #[.int .i64 r2, .int .i64 r3]) ∧ ∃ nd, w1 = (W.drewN nd).setCell ⟨q, 0, none⟩ (.int .i64 r1) := by
  have hcb : W.cell? ⟨w.heap.size, 0, none⟩ = some (.slice A b.length c) := (blk_cell h.bb 0).trans rfl
  have hca : W.cell? ⟨w.heap.size + 2, 0, none⟩ = some (.int .i64 at_) := (blk_cell h.ba 0).trans rfl
  have hcq : W.cell? ⟨q, 0, none⟩ = some (.int .i64 0) := (blk_cell hbox 0).trans rfl
  have hzq := blk_frozen hbox 0
  have hcl := aK (varint_Get.calls k A c b at_ r1 r2 r3 W (Kd.C_below h.rd h.bel) h.le hget)
  clear h hget hbox
  go_enter Tryz.func31, Tryz.ntmps31
  go_wp2_with (go_at_call 32; refine hcl.out.mono ?_; rintro e w' ⟨rfl, ⟨nd, rfl⟩⟩)
  go_ret2
  exact ⟨rfl, nd, rfl⟩
def dnum (k : Nat) (b : List Int) (at_ first : Int) : Option (Int × Int × Int) := if first = 0 then (varint_Get.f k b at_).bind fun r => if r.2.2 = 0 then some (r.1, r.2.1, 0) else some (r.1, at_, r.2.2) else some (0, at_, first)
set_option maxHeartbeats 2000000 in
theorem number30 {w W : World} {A : Option Addr} {c : Nat} {b : List Int} {at_ first : Int} (k : Nat) (h : DS w W A c b at_ first) {n at2 first2 : Int} (hd : dnum k b at_ first = some (n, at2, first2)) :
    Calls Tryz.prog 30 #[.pointer (some ⟨w.heap.size + 4, 0, none⟩), .pointer (some ⟨w.heap.size, 0, none⟩), .pointer (some ⟨w.heap.size + 2, 0, none⟩)] W fun e w' => e = .returned (.int .i64 n) ∧ DS w w' A c b at2 first2 ∧ Kp w W w' := by
  have hb1 : Below W.heap.size W (W.alloc (.cells #[.int .i64 0] 3)) := below_alloc (Below.refl _ _) _
  have h1 := h.below hb1
  have hcr : (W.alloc (.cells #[.int .i64 0] 3)).cell? ⟨w.heap.size + 4, 0, none⟩ = some (.func (.func 29) #[] #[.pointer (some ⟨w.heap.size + 3, 0, none⟩), .pointer (some ⟨w.heap.size + 2, 0, none⟩)]) := (blk_cell h1.br 0).trans rfl
  have hbox : (W.alloc (.cells #[.int .i64 0] 3)).heap[W.heap.size]? = some (.cells #[.int .i64 0] 3 (0, 0)) := heap_alloc_new W _
  have hsz := h.size
  have HK := aK (Kp.below (w := w) hb1)
  by_cases hf : first = 0
  · subst hf
    rw [dnum, if_pos rfl] at hd
    obtain ⟨⟨r1, r2, r3⟩, hget, hd⟩ := Option.bind_eq_some_iff.1 hd
    dsimp only at hd
    have hc := c31 k h1 hbox hget
    have hcl := aK (read_go31 h1 _ _ _ r2 r3 _ hc (fun w1 hp => by
      obtain ⟨nd, rfl⟩ := hp
      exact (h1.below (pw_below_drewN (Below.refl _ _) nd)).far (by omega) _))
    have HX := aK (And.intro h1 (And.intro hbox (And.intro hd hsz)))
    clear h h1 hbox hc hget hd hsz hb1
    go_enter Tryz.func30, Tryz.ntmps30
    go_wp2_with fail
    go_at_call 29
    refine hcl.out.mono ?_
    rintro e w2 ⟨rfl, w3, ⟨nd, rfl⟩, rfl⟩
    clear hcl
    obtain ⟨h1, hbox, hd, hsz⟩ := HX.out
    have hd1 := (h1.below (pw_below_drewN (Below.refl _ _) nd)).far (g := W.heap.size) (o := 0) (by omega) (.int .i64 r1)
    have hk1 := (HK.out.trans (Kp.below (pw_below_drewN (Below.refl _ _) nd))).setNew (g := W.heap.size) (o := 0) (Nat.le_refl _) (.int .i64 r1)
    have hb3 : (((W.alloc (.cells #[.int .i64 0] 3)).drewN nd).setCell ⟨W.heap.size, 0, none⟩ (.int .i64 r1)).heap[W.heap.size]? = some (.cells #[.int .i64 r1] 3 (0, 0)) := blk_put (blk_drewN hbox nd) 0 _ rfl
    generalize (((W.alloc (.cells #[.int .i64 0] 3)).drewN nd).setCell ⟨W.heap.size, 0, none⟩ (.int .i64 r1)) = W3 at hd1 hk1 hb3 ⊢
    by_cases he : r3 = 0
    · subst he
      rw [if_pos rfl] at hd
      simp only [Option.some.injEq, Prod.mk.injEq] at hd
      obtain ⟨rfl, rfl, rfl⟩ := hd
      rw [if_pos rfl]
      have hc3 : (W3.setCell ⟨w.heap.size + 2, 0, none⟩ (.int .i64 r2)).cell? ⟨W.heap.size, 0, none⟩ = some (.int .i64 r1) := (blk_cell (blk_far hb3 (by show W.heap.size ≠ w.heap.size + 2; omega) _) 0).trans rfl
      have HD := aK (hd1.setAt r2)
      have HK2 := aK (hk1.setAt (.int .i64 r2))
      clear HX h1 hbox hd1 hk1 hb3 HK
      generalize W3.setCell ⟨w.heap.size + 2, 0, none⟩ (.int .i64 r2) = W4 at hc3 HD HK2 ⊢
      go_wp2
      go_ret
      exact ⟨rfl, HD.out, HK2.out⟩
    · rw [if_neg he] at hd
      simp only [Option.some.injEq, Prod.mk.injEq] at hd
      obtain ⟨rfl, rfl, rfl⟩ := hd
      rw [if_neg he]
      have hc3 : (W3.setCell ⟨w.heap.size + 3, 0, none⟩ (.int .i64 r3)).cell? ⟨W.heap.size, 0, none⟩ = some (.int .i64 r1) := (blk_cell (blk_far hb3 (by show W.heap.size ≠ w.heap.size + 3; omega) _) 0).trans rfl
      have HD := aK (hd1.setFirst r3)
      have HK2 := aK (hk1.setFirst (.int .i64 r3))
      clear HX h1 hbox hd1 hk1 hb3 HK
      generalize W3.setCell ⟨w.heap.size + 3, 0, none⟩ (.int .i64 r3) = W4 at hc3 HD HK2 ⊢
      go_wp2
      go_ret
      exact ⟨rfl, HD.out, HK2.out⟩
  · rw [dnum, if_neg hf] at hd
    simp only [Option.some.injEq, Prod.mk.injEq] at hd
    obtain ⟨rfl, rfl, rfl⟩ := hd
    have hcl := aK (read_skip h1 hf)
    have HD := aK h1
    clear h h1 hbox hsz hb1 hf
    go_enter Tryz.func30, Tryz.ntmps30
    go_wp2_with (go_at_call 29; refine (hcl.out _).mono ?_; rintro e w' ⟨rfl, rfl⟩)
    go_ret
    exact ⟨rfl, HD.out, HK.out⟩
set_option maxHeartbeats 2000000 in
theorem read_go34 {w W : World} {A : Option Addr} {c : Nat} {b : List Int} {at_ : Int} (h : DS w W A c b at_ 0) (p1 p2 p3 : Value) (nx ee : Int) (Post : World → Prop)
    (hg : Calls Tryz.prog 34 #[p1, p2, p3] W fun e w1 => e = .returned (.tuple #[.int .i64 nx, .int .i64 ee]) ∧ Post w1) (hP : ∀ w1, Post w1 → DS w w1 A c b at_ 0) :
    Calls Tryz.prog 29 #[.func (.func 34) #[] #[p1, p2, p3], .pointer (some ⟨w.heap.size + 3, 0, none⟩), .pointer (some ⟨w.heap.size + 2, 0, none⟩)] W fun e w' => e = .returned (.tuple #[]) ∧ ∃ w1, Post w1 ∧ w' = if ee = 0 then w1.setCell ⟨w.heap.size + 2, 0, none⟩ (.int .i64 nx) else w1.setCell ⟨w.heap.size + 3, 0, none⟩ (.int .i64 ee) := by
  have hcf := (blk_cell h.bf 0).trans rfl
  have HG := aK hg
  have HP := aK hP
  clear h hg hP
  go_enter Tryz.func29, Tryz.ntmps29
  go_wp2_with fail
  go_at_call 34
  refine HG.out.mono ?_
  rintro e w1 ⟨rfl, hp⟩
  clear HG
  have hd := HP.out w1 hp
  have HQ := aK hp
  clear HP hp
  have hcf1 := (blk_cell hd.bf 0).trans rfl
  have hca1 := (blk_cell hd.ba 0).trans rfl
  have hzf := blk_frozen hd.bf 0
  have hza := blk_frozen hd.ba 0
  clear hcf hd
  by_cases he : ee = 0
  · subst he
    go_wp2
    first | go_end0 | ((try simp only [Exit.inBlock, Exit.then]); go_end0) | (refine bodyPost_ret (results_none rfl _ _ _) rfl ?_)
    exact ⟨rfl, w1, HQ.out, by first | rfl | rw [if_pos rfl]⟩
  · have hne : (ee != 0) = true := by simpa using he
    go_wp2
    first | go_end0 | ((try simp only [Exit.inBlock, Exit.then]); go_end0) | (refine bodyPost_ret (results_none rfl _ _ _) rfl ?_)
    exact ⟨rfl, w1, HQ.out, by first | rfl | rw [if_neg he]⟩
set_option maxHeartbeats 2000000 in
theorem read_go36 {w W : World} {A : Option Addr} {c : Nat} {b : List Int} {at_ : Int} (h : DS w W A c b at_ 0) (p1 p2 p3 : Value) (nx ee : Int) (Post : World → Prop)
    (hg : Calls Tryz.prog 36 #[p1, p2, p3] W fun e w1 => e = .returned (.tuple #[.int .i64 nx, .int .i64 ee]) ∧ Post w1) (hP : ∀ w1, Post w1 → DS w w1 A c b at_ 0) :
    Calls Tryz.prog 29 #[.func (.func 36) #[] #[p1, p2, p3], .pointer (some ⟨w.heap.size + 3, 0, none⟩), .pointer (some ⟨w.heap.size + 2, 0, none⟩)] W fun e w' => e = .returned (.tuple #[]) ∧ ∃ w1, Post w1 ∧ w' = if ee = 0 then w1.setCell ⟨w.heap.size + 2, 0, none⟩ (.int .i64 nx) else w1.setCell ⟨w.heap.size + 3, 0, none⟩ (.int .i64 ee) := by
  have hcf := (blk_cell h.bf 0).trans rfl
  have HG := aK hg
  have HP := aK hP
  clear h hg hP
  go_enter Tryz.func29, Tryz.ntmps29
  go_wp2_with fail
  go_at_call 36
  refine HG.out.mono ?_
  rintro e w1 ⟨rfl, hp⟩
  clear HG
  have hd := HP.out w1 hp
  have HQ := aK hp
  clear HP hp
  have hcf1 := (blk_cell hd.bf 0).trans rfl
  have hca1 := (blk_cell hd.ba 0).trans rfl
  have hzf := blk_frozen hd.bf 0
  have hza := blk_frozen hd.ba 0
  clear hcf hd
  by_cases he : ee = 0
  · subst he
    go_wp2
    first | go_end0 | ((try simp only [Exit.inBlock, Exit.then]); go_end0) | (refine bodyPost_ret (results_none rfl _ _ _) rfl ?_)
    exact ⟨rfl, w1, HQ.out, by first | rfl | rw [if_pos rfl]⟩
  · have hne : (ee != 0) = true := by simpa using he
    go_wp2
    first | go_end0 | ((try simp only [Exit.inBlock, Exit.then]); go_end0) | (refine bodyPost_ret (results_none rfl _ _ _) rfl ?_)
    exact ⟨rfl, w1, HQ.out, by first | rfl | rw [if_neg he]⟩
set_option maxHeartbeats 2000000 in
theorem c34 {w W : World} {A : Option Addr} {c : Nat} {b : List Int} {at_ : Int} (k : Nat) (h : DS w W A c b at_ 0) {q : Nat} (hbox : W.heap[q]? = some (.cells #[.slice none 0 0] 27 (0, 0))) {r1 : List Int} {r2 r3 : Int} (hget : varint_GetList.f k b at_ 9223372036854775807 = some (r1, r2, r3)) :
    Calls Tryz.prog 34 #[.pointer (some ⟨w.heap.size, 0, none⟩), .pointer (some ⟨w.heap.size + 2, 0, none⟩), .pointer (some ⟨q, 0, none⟩)] W fun e w1 => e = .returned (.tuple #[.int .i64 r2, .int .i64 r3]) ∧ ∃ v w2, Below W.heap.size W w2 ∧ Kd.R (Kd.int .i64) 3 w2 W.heap.size (fun _ => True) v r1 ∧ w1 = w2.setCell ⟨q, 0, none⟩ v := by
  have hcb : W.cell? ⟨w.heap.size, 0, none⟩ = some (.slice A b.length c) := (blk_cell h.bb 0).trans rfl
  have hca : W.cell? ⟨w.heap.size + 2, 0, none⟩ = some (.int .i64 at_) := (blk_cell h.ba 0).trans rfl
  have hcl := aK (varint_GetList.calls k A c b at_ 9223372036854775807 r1 r2 r3 W (Kd.C_below h.rd h.bel) h.le hget)
  have HX := aK hbox
  clear h hget hbox
  go_enter Tryz.func34, Tryz.ntmps34
  go_wp2_with fail
  go_at_call 35
  refine hcl.out.mono ?_
  rintro e w2 ⟨v, rfl, hR, hB⟩
  clear hcl
  obtain ⟨A2, c2, rfl⟩ := Kd.R_slice hR
  have hb2 := blk_below HX.out hB
  have hcq : w2.cell? ⟨q, 0, none⟩ = some (.slice none 0 0) := (blk_cell hb2 0).trans rfl
  have hzq := blk_frozen hb2 0
  have HB := aK hB
  have HR := aK hR
  clear hb2 HX hB hR hcb hca
  go_wp2
  go_ret2
  exact ⟨rfl, _, w2, HB.out, HR.out, rfl⟩
def dlist (k : Nat) (b : List Int) (at_ first : Int) : Option (List Int × Int × Int) := if first = 0 then (varint_GetList.f k b at_ 9223372036854775807).bind fun r => if r.2.2 = 0 then some (r.1, r.2.1, 0) else some (r.1, at_, r.2.2) else some ([], at_, first)
set_option maxHeartbeats 2000000 in
theorem numbers33 {w W : World} {A : Option Addr} {c : Nat} {b : List Int} {at_ first : Int} (k : Nat) (h : DS w W A c b at_ first) {l : List Int} {at2 first2 : Int} (hd : dlist k b at_ first = some (l, at2, first2)) :
    Calls Tryz.prog 33 #[.pointer (some ⟨w.heap.size + 4, 0, none⟩), .pointer (some ⟨w.heap.size, 0, none⟩), .pointer (some ⟨w.heap.size + 2, 0, none⟩)] W fun e w' => ∃ v, e = .returned v ∧ Kd.R (Kd.int .i64) 3 w' W.heap.size (fun _ => True) v l ∧ DS w w' A c b at2 first2 ∧ Kp w W w' := by
  have hb1 : Below W.heap.size W (W.alloc (.cells #[.slice none 0 0] 27)) := below_alloc (Below.refl _ _) _
  have h1 := h.below hb1
  have hcr : (W.alloc (.cells #[.slice none 0 0] 27)).cell? ⟨w.heap.size + 4, 0, none⟩ = some (.func (.func 29) #[] #[.pointer (some ⟨w.heap.size + 3, 0, none⟩), .pointer (some ⟨w.heap.size + 2, 0, none⟩)]) := (blk_cell h1.br 0).trans rfl
  have hbox : (W.alloc (.cells #[.slice none 0 0] 27)).heap[W.heap.size]? = some (.cells #[.slice none 0 0] 27 (0, 0)) := heap_alloc_new W _
  have hsz := h.size
  have hs1 : (W.alloc (.cells #[.slice none 0 0] 27)).heap.size = W.heap.size + 1 := by simp
  have HK := aK (Kp.below (w := w) hb1)
  by_cases hf : first = 0
  · subst hf
    rw [dlist, if_pos rfl] at hd
    obtain ⟨⟨r1, r2, r3⟩, hget, hd⟩ := Option.bind_eq_some_iff.1 hd
    dsimp only at hd
    have hc := c34 k h1 hbox hget
    have hcl := aK (read_go34 h1 _ _ _ r2 r3 _ hc (fun w1 hp => by
      obtain ⟨v, w2, hb2, hr2, rfl⟩ := hp
      exact (h1.below hb2).far (by omega) _))
    have HX := aK (And.intro h1 (And.intro hbox (And.intro hd (And.intro hsz hs1))))
    clear h h1 hbox hc hget hd hsz hb1 hs1
    go_enter Tryz.func33, Tryz.ntmps33
    go_wp2_with fail
    go_at_call 29
    refine hcl.out.mono ?_
    rintro e w2 ⟨rfl, w3, ⟨v, w4, hb4, hr4, rfl⟩, rfl⟩
    clear hcl
    obtain ⟨h1, hbox, hd, hsz, hs1⟩ := HX.out
    obtain ⟨A4, c4, rfl⟩ := Kd.R_slice hr4
    have hd1 := (h1.below hb4).far (g := W.heap.size) (o := 0) (by omega) (.slice A4 r1.length c4)
    have hk1 := (HK.out.trans (Kp.below hb4)).setNew (g := W.heap.size) (o := 0) (Nat.le_refl _) (.slice A4 r1.length c4)
    have hb3 : (w4.setCell ⟨W.heap.size, 0, none⟩ (.slice A4 r1.length c4)).heap[W.heap.size]? = some (.cells #[.slice A4 r1.length c4] 27 (0, 0)) := blk_put (blk_below hbox hb4) 0 _ rfl
    have hr5 := Kd.R_far (p := ⟨W.heap.size, 0, none⟩) (Kd.R_mono (Kd.R_bound hr4) (ok' := fun k => W.heap.size + 1 ≤ k) (fun k hk => by rw [← hs1]; exact hk.2.1)) (fun k hk => by show k ≠ W.heap.size; omega) (.slice A4 r1.length c4)
    rw [hs1] at hr5
    generalize w4.setCell ⟨W.heap.size, 0, none⟩ (.slice A4 r1.length c4) = W3 at hd1 hk1 hb3 hr5 ⊢
    by_cases he : r3 = 0
    · subst he
      rw [if_pos rfl] at hd
      simp only [Option.some.injEq, Prod.mk.injEq] at hd
      obtain ⟨rfl, rfl, rfl⟩ := hd
      rw [if_pos rfl]
      have hc3 : (W3.setCell ⟨w.heap.size + 2, 0, none⟩ (.int .i64 r2)).cell? ⟨W.heap.size, 0, none⟩ = some (.slice A4 r1.length c4) := (blk_cell (blk_far hb3 (by show W.heap.size ≠ w.heap.size + 2; omega) _) 0).trans rfl
      have HD := aK (hd1.setAt r2)
      have HK2 := aK (hk1.setAt (.int .i64 r2))
      have HR := aK (Kd.R_lower (Kd.R_mono (Kd.R_far (p := ⟨w.heap.size + 2, 0, none⟩) hr5 (fun k hk => by show k ≠ w.heap.size + 2; omega) (.int .i64 r2)) (ok' := fun _ => True) (fun _ _ => trivial)) (Nat.le_succ _))
      clear HX h1 hbox hd1 hk1 hb3 HK hr4 hr5 hb4 hs1
      generalize W3.setCell ⟨w.heap.size + 2, 0, none⟩ (.int .i64 r2) = W4 at hc3 HD HK2 HR ⊢
      go_wp2
      go_ret
      exact ⟨_, rfl, HR.out, HD.out, HK2.out⟩
    · rw [if_neg he] at hd
      simp only [Option.some.injEq, Prod.mk.injEq] at hd
      obtain ⟨rfl, rfl, rfl⟩ := hd
      rw [if_neg he]
      have hc3 : (W3.setCell ⟨w.heap.size + 3, 0, none⟩ (.int .i64 r3)).cell? ⟨W.heap.size, 0, none⟩ = some (.slice A4 r1.length c4) := (blk_cell (blk_far hb3 (by show W.heap.size ≠ w.heap.size + 3; omega) _) 0).trans rfl
      have HD := aK (hd1.setFirst r3)
      have HK2 := aK (hk1.setFirst (.int .i64 r3))
      have HR := aK (Kd.R_lower (Kd.R_mono (Kd.R_far (p := ⟨w.heap.size + 3, 0, none⟩) hr5 (fun k hk => by show k ≠ w.heap.size + 3; omega) (.int .i64 r3)) (ok' := fun _ => True) (fun _ _ => trivial)) (Nat.le_succ _))
      clear HX h1 hbox hd1 hk1 hb3 HK hr4 hr5 hb4 hs1
      generalize W3.setCell ⟨w.heap.size + 3, 0, none⟩ (.int .i64 r3) = W4 at hc3 HD HK2 HR ⊢
      go_wp2
      go_ret
      exact ⟨_, rfl, HR.out, HD.out, HK2.out⟩
  · rw [dlist, if_neg hf] at hd
    simp only [Option.some.injEq, Prod.mk.injEq] at hd
    obtain ⟨rfl, rfl, rfl⟩ := hd
    have hcl := aK (read_skip h1 hf)
    have HD := aK h1
    clear h h1 hbox hsz hb1 hf hs1
    go_enter Tryz.func33, Tryz.ntmps33
    go_wp2_with (go_at_call 29; refine (hcl.out _).mono ?_; rintro e w' ⟨rfl, rfl⟩)
    go_ret
    exact ⟨_, rfl, Kd.R_nil _ _ _ _ _, HD.out, HK.out⟩
theorem Kd.R_hi {α : Type} {d : Kd α} {e base : Nat} {ok : Nat → Prop} {W W1 : World} {v : Value} {xs : List α} (h : d.R e W base ok v xs) (hs : ∀ k, base ≤ k → k < W.heap.size → W1.heap[k]? = W.heap[k]?) : d.R e W1 base ok v xs :=
  Kd.R_mono (Kd.R_step (Kd.R_bound h) (fun k hk hlt => hs k hk.2.1 hlt)) (fun k hk => hk.1)
set_option maxHeartbeats 2000000 in
theorem c36 {w W : World} {A : Option Addr} {c : Nat} {b : List Int} {at_ : Int} (k : Nat) (h : DS w W A c b at_ 0) {x1 x2 x3 : Int} {v3 v4 v5 : Value} {on : List ByteArray} (hbox : W.heap[w.heap.size + 5]? = some (.cells #[.int .i64 x1, .int .i64 x2, .int .i64 x3, v3, v4, v5] 30 (0, 0)))
    (hR : Kd.R Kd.string 9 W (w.heap.size + 6) (fun _ => True) v5 on) (hlen : on.length < 8796093022208) {r1 : ByteArray} {r2 r3 : Int} (hget : varint_GetString.f k b at_ 9223372036854775807 = some (r1, r2, r3)) :
    Calls Tryz.prog 36 #[.pointer (some ⟨w.heap.size, 0, none⟩), .pointer (some ⟨w.heap.size + 2, 0, none⟩), .pointer (some ⟨w.heap.size + 5, 0, none⟩)] W fun e w1 => e = .returned (.tuple #[.int .i64 r2, .int .i64 r3]) ∧ ∃ v w2 nd, (W.drewN nd).grownBy w2 v5.ownBlock ∧ Below w.heap.size w w2 ∧ Kd.R Kd.string 9 w2 (w.heap.size + 6) (fun _ => True) v (on ++ [r1]) ∧ w1 = w2.setCell ⟨w.heap.size + 5, 5, none⟩ v := by
  have hcb : W.cell? ⟨w.heap.size, 0, none⟩ = some (.slice A b.length c) := (blk_cell h.bb 0).trans rfl
  have hca : W.cell? ⟨w.heap.size + 2, 0, none⟩ = some (.int .i64 at_) := (blk_cell h.ba 0).trans rfl
  have info9 : (Tryz.prog.info? 9).map (fun i => (i.zero, i.size, i.bytes)) = some (some (.string ⟨#[]⟩), 1, 16) := by kernel_rfl
  have HI := aK info9
  have hcl := aK (varint_GetString.calls k A c b at_ 9223372036854775807 r1 r2 r3 W (Kd.C_below h.rd h.bel) h.le hget)
  have HX := aK (And.intro hbox (And.intro h.bel hlen))
  have HR := aK hR
  have HSZ := aK (And.intro h.size (show w.heap.size + 5 < W.heap.size from (Array.getElem?_eq_some_iff.1 hbox).1))
  clear h hget hbox hR info9 hlen
  go_enter Tryz.func36, Tryz.ntmps36
  go_wp2_with fail
  go_at_call 37
  refine hcl.out.mono ?_
  rintro e w2 ⟨rfl, ⟨nd, rfl⟩⟩
  clear hcl hca hcb
  have hB := below_then HX.out.2.1 HX.out.2.1.size (pw_below_drewN (Below.refl _ _) nd)
  have hb2 := blk_drewN HX.out.1 nd
  have hc5 : (W.drewN nd).cell? ⟨w.heap.size + 5, 5, none⟩ = some v5 := (blk_cell hb2 5).trans rfl
  have HB := aK hB
  have HR2 := aK (Kd.R_below HR.out (pw_below_drewN (Below.refl _ _) nd))
  have HLEN := aK HX.out.2.2
  have HB2 := aK hb2
  have HSZ2 := aK (show w.heap.size + 6 ≤ (W.drewN nd).heap.size from HSZ.out.2)
  clear hB hb2 HX HR
  generalize hw2 : W.drewN nd = w2 at HB HR2 HB2 HSZ2 hc5 ⊢
  go_wp2_with (first
    | ((with_reducible refine gate_builtin (b := .append) (xs := #[.tmp 16, .tmp 18]) rfl ?_); at_builtin
       refine Kd.R_append Kd.string (w0 := w2) (w.heap.size + 6) rfl (.tmp 16) (.tmp 18) 28 9 (.string ⟨#[]⟩) 16 rfl Tryz.underlying28 HI.out rfl (by decide) (by omega) v5 on r1 [.string r1] (fun _ => True) (fun _ => False) rfl rfl rfl (fun _ hk => hk.elim) (fun _ _ => trivial) HR2.out (Below.refl _ _) HSZ2.out (by have := HLEN.out; omega) ?_
       intro v6 w6 ho6 hb6 hg6 hat6
       have hB6 : Below w.heap.size w w6 := HB.out.grown hg6 HB.out.size (fun k hk => by have := Kd.R_base HR2.out k hk; omega)
       have hne : some (w.heap.size + 5) ≠ v5.ownBlock := fun e => by have := Kd.R_base HR2.out _ e.symm; omega
       have hb7 : w6.heap[w.heap.size + 5]? = some (.cells #[.int .i64 x1, .int .i64 x2, .int .i64 x3, v3, v4, v5] 30 (0, 0)) := (hg6.block _ (by have := HSZ2.out; omega) hne).trans HB2.out
       have hc6 : w6.cell? ⟨w.heap.size + 5, 5, none⟩ = some v5 := (blk_cell hb7 5).trans rfl
       have hz6 := blk_frozen hb7 5
       obtain ⟨A6, c6, rfl⟩ := Kd.R_slice ho6
       have n0_ := aK ho6
       have n1_ := aK hB6
       have n2_ := aK hg6
       clear hb6 hat6 HB2 HR2 ho6 hB6 hg6 hne hb7 hc5 HB
       have HR6 := n0_; have HB6 := n1_; have HG6 := n2_; clear n0_ n1_ n2_))
  go_ret2
  exact ⟨rfl, _, w6, nd, by rw [hw2]; exact HG6.out, HB6.out, HR6.out, by first | rfl | rw [List.length_append, List.length_singleton]⟩
def zE : Array Value := #[.int .i64 0, .int .i64 0, .int .i64 0, .slice none 0 0, .slice none 0 0, .slice none 0 0]
structure ES (w W : World) (x1 x2 x3 : Int) (v3 v4 v5 : Value) (l1 l2 : List Int) (on : List ByteArray) : Prop where
  bx : W.heap[w.heap.size + 5]? = some (.cells #[.int .i64 x1, .int .i64 x2, .int .i64 x3, v3, v4, v5] 30 (0, 0))
  br : W.heap[w.heap.size + 1]? = some (.cells zE 30 (0, 0))
  r3 : Kd.R (Kd.int .i64) 3 W (w.heap.size + 6) (fun k => some k ≠ v4.ownBlock) v3 l1
  r4 : Kd.R (Kd.int .i64) 3 W (w.heap.size + 6) (fun k => some k ≠ v3.ownBlock) v4 l2
  r5 : Kd.R Kd.string 9 W (w.heap.size + 6) (fun _ => True) v5 on
section
variable {w W W1 : World} {x1 x2 x3 : Int} {v3 v4 v5 : Value} {l1 l2 : List Int} {on : List ByteArray}
theorem ES.sz (h : ES w W x1 x2 x3 v3 v4 v5 l1 l2 on) : w.heap.size + 5 < W.heap.size := (Array.getElem?_eq_some_iff.1 h.bx).1
theorem ES.same (h : ES w W x1 x2 x3 v3 v4 v5 l1 l2 on) (hs : ∀ i, i = w.heap.size + 1 ∨ w.heap.size + 5 ≤ i → i < W.heap.size → W1.heap[i]? = W.heap[i]?) : ES w W1 x1 x2 x3 v3 v4 v5 l1 l2 on :=
  ⟨(hs _ (.inr (Nat.le_refl _)) h.sz).trans h.bx, (hs _ (.inl rfl) (by have := h.sz; omega)).trans h.br, Kd.R_hi h.r3 (fun k hk hlt => hs k (.inr (by omega)) hlt), Kd.R_hi h.r4 (fun k hk hlt => hs k (.inr (by omega)) hlt), Kd.R_hi h.r5 (fun k hk hlt => hs k (.inr (by omega)) hlt)⟩
theorem ES.kp (h : ES w W x1 x2 x3 v3 v4 v5 l1 l2 on) (hk : Kp w W W1) : ES w W1 x1 x2 x3 v3 v4 v5 l1 l2 on := h.same (fun i hi hlt => hk.2 i hlt (by omega) (by omega))
theorem ES.rows (h : ES w W x1 x2 x3 v3 v4 v5 l1 l2 on) (o : Nat) (u : Value) : (∀ ok v l, Kd.R (Kd.int .i64) 3 W (w.heap.size + 6) ok v l → Kd.R (Kd.int .i64) 3 (W.setCell ⟨w.heap.size + 5, o, none⟩ u) (w.heap.size + 6) ok v l) ∧ (∀ ok v l, Kd.R Kd.string 9 W (w.heap.size + 6) ok v l → Kd.R Kd.string 9 (W.setCell ⟨w.heap.size + 5, o, none⟩ u) (w.heap.size + 6) ok v l) ∧ (W.setCell ⟨w.heap.size + 5, o, none⟩ u).heap[w.heap.size + 1]? = some (.cells zE 30 (0, 0)) :=
  ⟨fun ok v l hr => Kd.R_hi hr (fun k hk _ => Below.heap_setCell _ _ _ _ (by show k ≠ w.heap.size + 5; omega)), fun ok v l hr => Kd.R_hi hr (fun k hk _ => Below.heap_setCell _ _ _ _ (by show k ≠ w.heap.size + 5; omega)), (Below.heap_setCell _ _ _ _ (by show w.heap.size + 1 ≠ w.heap.size + 5; omega)).trans h.br⟩
theorem ES.set0 (h : ES w W x1 x2 x3 v3 v4 v5 l1 l2 on) (x : Int) : ES w (W.setCell ⟨w.heap.size + 5, 0, none⟩ (.int .i64 x)) x x2 x3 v3 v4 v5 l1 l2 on :=
  let r := h.rows 0 (.int .i64 x); ⟨blk_put h.bx 0 _ rfl, r.2.2, r.1 _ _ _ h.r3, r.1 _ _ _ h.r4, r.2.1 _ _ _ h.r5⟩
theorem ES.set1 (h : ES w W x1 x2 x3 v3 v4 v5 l1 l2 on) (x : Int) : ES w (W.setCell ⟨w.heap.size + 5, 1, none⟩ (.int .i64 x)) x1 x x3 v3 v4 v5 l1 l2 on :=
  let r := h.rows 1 (.int .i64 x); ⟨blk_put h.bx 1 _ rfl, r.2.2, r.1 _ _ _ h.r3, r.1 _ _ _ h.r4, r.2.1 _ _ _ h.r5⟩
theorem ES.set2 (h : ES w W x1 x2 x3 v3 v4 v5 l1 l2 on) (x : Int) : ES w (W.setCell ⟨w.heap.size + 5, 2, none⟩ (.int .i64 x)) x1 x2 x v3 v4 v5 l1 l2 on :=
  let r := h.rows 2 (.int .i64 x); ⟨blk_put h.bx 2 _ rfl, r.2.2, r.1 _ _ _ h.r3, r.1 _ _ _ h.r4, r.2.1 _ _ _ h.r5⟩
theorem ES.set3 (h : ES w W x1 x2 x3 (.slice none 0 0) (.slice none 0 0) v5 [] [] on) {v : Value} {l : List Int} (hk : Kp w W W1) (hr : Kd.R (Kd.int .i64) 3 W1 W.heap.size (fun _ => True) v l) : ES w (W1.setCell ⟨w.heap.size + 5, 3, none⟩ v) x1 x2 x3 v (.slice none 0 0) v5 l [] on := by
  have h1 := h.kp hk
  have r := h1.rows 3 v
  refine ⟨blk_put h1.bx 3 _ rfl, r.2.2, r.1 _ _ _ (Kd.R_mono (Kd.R_lower hr h.sz) (fun k _ => by simp [Value.ownBlock])), Kd.R_nil _ _ _ _ _, r.2.1 _ _ _ h1.r5⟩
theorem ES.set4 (h : ES w W x1 x2 x3 v3 (.slice none 0 0) v5 l1 [] on) {v : Value} {l : List Int} (hk : Kp w W W1) (hr : Kd.R (Kd.int .i64) 3 W1 W.heap.size (fun _ => True) v l) : ES w (W1.setCell ⟨w.heap.size + 5, 4, none⟩ v) x1 x2 x3 v3 v v5 l1 l on := by
  have h1 := h.kp hk
  have r := h1.rows 4 v
  have hb := Kd.R_base hr
  have hl := Kd.R_lt h.r3
  have r3 : Kd.R (Kd.int .i64) 3 W1 (w.heap.size + 6) (fun k => some k ≠ v.ownBlock) v3 l1 := Kd.R_hi (Kd.R_mono (Kd.R_bound h.r3) (fun k hk e => by have := hb k e.symm; have := hk.2.2.1; omega)) (fun k hk' hlt => hk.2 k hlt (by omega) (by omega))
  have r4 : Kd.R (Kd.int .i64) 3 W1 (w.heap.size + 6) (fun k => some k ≠ v3.ownBlock) v l := Kd.R_lower (Kd.R_mono (Kd.R_bound hr) (fun k hk' e => by have := hl k e.symm; have := hk'.2.1; omega)) h.sz
  exact ⟨blk_put h1.bx 4 _ rfl, r.2.2, r.1 _ _ _ r3, r.1 _ _ _ r4, r.2.1 _ _ _ h1.r5⟩
theorem ES.put (h : ES w W x1 x2 x3 v3 v4 v5 l1 l2 on) {w2 : World} {v : Value} {on2 : List ByteArray} {nd : Nat} (hg : (W.drewN nd).grownBy w2 v5.ownBlock) (hr : Kd.R Kd.string 9 w2 (w.heap.size + 6) (fun _ => True) v on2) : ES w (w2.setCell ⟨w.heap.size + 5, 5, none⟩ v) x1 x2 x3 v3 v4 v l1 l2 on2 := by
  have hbs := Kd.R_base h.r5
  have hd := Kp.below (w := w) (pw_below_drewN (Below.refl W.heap.size W) nd)
  have h1 := h.kp hd
  have g0 : ∀ i, i < w.heap.size + 6 → i < (W.drewN nd).heap.size → w2.heap[i]? = (W.drewN nd).heap[i]? := fun i hi hlt => hg.block i hlt (fun e => by have := hbs i e.symm; omega)
  have r3 : Kd.R (Kd.int .i64) 3 w2 (w.heap.size + 6) (fun k => some k ≠ v4.ownBlock) v3 l1 := Kd.R_over' h1.r3 (Kd.R_typed h1.r5) (by decide) hg
  have r4 : Kd.R (Kd.int .i64) 3 w2 (w.heap.size + 6) (fun k => some k ≠ v3.ownBlock) v4 l2 := Kd.R_over' h1.r4 (Kd.R_typed h1.r5) (by decide) hg
  have hsz := h1.sz
  have hbx := (g0 _ (by omega) hsz).trans h1.bx
  have hbr := (g0 (w.heap.size + 1) (by omega) (by omega)).trans h1.br
  refine ⟨blk_put hbx 5 _ rfl, (Below.heap_setCell _ _ _ _ (by show w.heap.size + 1 ≠ w.heap.size + 5; omega)).trans hbr, ?_, ?_, ?_⟩
  · exact Kd.R_hi r3 (fun k hk _ => Below.heap_setCell _ _ _ _ (by show k ≠ w.heap.size + 5; omega))
  · exact Kd.R_hi r4 (fun k hk _ => Below.heap_setCell _ _ _ _ (by show k ≠ w.heap.size + 5; omega))
  · exact Kd.R_hi hr (fun k hk _ => Below.heap_setCell _ _ _ _ (by show k ≠ w.heap.size + 5; omega))
end
def dstrs (k : Nat) (b : List Int) : Nat → Int → Int → Int → Int → List ByteArray → Option (List ByteArray × Int × Int)
  | 0, _, _, _, _, _ => none
  | j + 1, i, cnt, at_, first, on => if i < cnt then (if first = 0 then (if on.length < 8796093022208 then (varint_GetString.f k b at_ 9223372036854775807).bind fun r => if r.2.2 = 0 then dstrs k b j (wrap64 (i + 1)) cnt r.2.1 0 (on ++ [r.1]) else dstrs k b j (wrap64 (i + 1)) cnt at_ r.2.2 (on ++ [r.1]) else none) else some (on, at_, first)) else some (on, at_, first)
def manifest_Decode.f (k : Nat) (l0 : List Int) : Option (Int × Int × Int × List Int × List Int × List ByteArray × Int) :=
  (dnum k l0 0 0).bind fun a1 => (dnum k l0 a1.2.1 a1.2.2).bind fun a2 => (dnum k l0 a2.2.1 a2.2.2).bind fun a3 => (dlist k l0 a3.2.1 a3.2.2).bind fun a4 => (dlist k l0 a4.2.1 a4.2.2).bind fun a5 => (dnum k l0 a5.2.1 a5.2.2).bind fun a6 => (dstrs k l0 k 0 a6.1 a6.2.1 a6.2.2 []).bind fun a7 =>
    if a7.2.2 = 0 then (if a7.2.1 = (l0.length : Int) then some (a1.1, a2.1, a3.1, a4.1, a5.1, a7.1, 0) else some (0, 0, 0, [], [], [], 3)) else some (0, 0, 0, [], [], [], 3)
theorem dnum_mono (k : Nat) (b : List Int) (x y : Int) : LeO (dnum k b x y) (dnum (k + 1) b x y) := LeO.ite (LeO.bind (varint_Get.mono _ _ _) (fun _ => LeO.refl _)) (LeO.refl _)
theorem dlist_mono (k : Nat) (b : List Int) (x y : Int) : LeO (dlist k b x y) (dlist (k + 1) b x y) := LeO.ite (LeO.bind (varint_GetList.mono _ _ _ _) (fun _ => LeO.refl _)) (LeO.refl _)
theorem dstrs_mono_k (k : Nat) (b : List Int) : ∀ (j : Nat) (i cnt x y : Int) (on : List ByteArray), LeO (dstrs k b j i cnt x y on) (dstrs (k + 1) b j i cnt x y on)
  | 0, _, _, _, _, _ => LeO.none _
  | j + 1, i, cnt, x, y, on => LeO.ite (LeO.ite (LeO.ite (LeO.bind (varint_GetString.mono _ _ _ _) (fun _ => LeO.ite (dstrs_mono_k k b j _ _ _ _ _) (dstrs_mono_k k b j _ _ _ _ _))) (LeO.refl _)) (LeO.refl _)) (LeO.refl _)
theorem dstrs_mono_j (k : Nat) (b : List Int) : ∀ (j : Nat) (i cnt x y : Int) (on : List ByteArray), LeO (dstrs k b j i cnt x y on) (dstrs k b (j + 1) i cnt x y on)
  | 0, _, _, _, _, _ => LeO.none _
  | j + 1, i, cnt, x, y, on => LeO.ite (LeO.ite (LeO.ite (LeO.bind (LeO.refl _) (fun _ => LeO.ite (dstrs_mono_j k b j _ _ _ _ _) (dstrs_mono_j k b j _ _ _ _ _))) (LeO.refl _)) (LeO.refl _)) (LeO.refl _)
theorem manifest_Decode.mono : ∀ a0 k, LeO (manifest_Decode.f k a0) (manifest_Decode.f (k + 1) a0) := by
  intro a0 k
  unfold manifest_Decode.f
  refine LeO.bind (dnum_mono _ _ _ _) (fun _ => LeO.bind (dnum_mono _ _ _ _) (fun _ => LeO.bind (dnum_mono _ _ _ _) (fun _ => LeO.bind (dlist_mono _ _ _ _) (fun _ => LeO.bind (dlist_mono _ _ _ _) (fun _ => LeO.bind (dnum_mono _ _ _ _) (fun _ => LeO.bind ?_ (fun _ => LeO.refl _)))))))
  exact fun r h => dstrs_mono_j _ _ _ _ _ _ _ _ r (dstrs_mono_k _ _ _ _ _ _ _ _ r h)
theorem R_res {α : Type} {d : Kd α} {e n : Nat} {ok : Nat → Prop} {W : World} {v : Value} {xs : List α} (h : d.R e W (n + 6) ok v xs) (o : Nat) (u : Value) : d.R e (W.setCell ⟨n + 1, o, none⟩ u) (n + 6) ok v xs := Kd.R_hi h (fun k hk _ => Below.heap_setCell _ _ _ _ (by show k ≠ n + 1; omega))
theorem DS.put {w W : World} {A : Option Addr} {c : Nat} {b : List Int} {at_ : Int} {x1 x2 x3 : Int} {v3 v4 v5 : Value} {l1 l2 : List Int} {on : List ByteArray} (h : DS w W A c b at_ 0) (hE : ES w W x1 x2 x3 v3 v4 v5 l1 l2 on) {w2 : World} {v : Value} {nd : Nat} (hg : (W.drewN nd).grownBy w2 v5.ownBlock) (hB : Below w.heap.size w w2) : DS w (w2.setCell ⟨w.heap.size + 5, 5, none⟩ v) A c b at_ 0 := by
  have hbs := Kd.R_base hE.r5
  have hsz := hE.sz
  have hd := pw_below_drewN (Below.refl W.heap.size W) nd
  refine h.same (hB.setCell (p := ⟨w.heap.size + 5, 5, none⟩) (Nat.le_add_right _ _) _) (fun i h1 h2 => (Below.heap_setCell _ _ _ _ (by show i ≠ w.heap.size + 5; omega)).trans ((hg.block i (by have := hd.size; omega) (fun e => by have := hbs i e.symm; omega)).trans (hd.block i (by omega))))
theorem manifest_Decode.calls (k : Nat) (A0 : Option Addr) (c0 : Nat) (l0 : List Int) (r1 : Int) (r2 : Int) (r3 : Int) (r4 : List Int) (r5 : List Int) (r6 : List ByteArray) (r7 : Int) (w : World) (ac : Kd.C (Kd.int .u8) w A0 l0.length l0) (aq : l0.length ≤ c0) (h : manifest_Decode.f k l0 = some (r1, r2, r3, r4, r5, r6, r7)) :
    Calls Tryz.prog 10 #[.slice A0 l0.length c0] w fun e w' => ∃ ad ae ar : Value, e = .returned (.tuple #[.agg #[.int .i64 r1, .int .i64 r2, .int .i64 r3, ad, ae, ar], .int .i64 r7]) ∧ Kd.R (Kd.int .i64) 3 w' w.heap.size (fun k_ => some k_ ≠ (ae : Value).ownBlock) ad r4 ∧ Kd.R (Kd.int .i64) 3 w' w.heap.size (fun k_ => some k_ ≠ (ad : Value).ownBlock) ae r5 ∧ Kd.R Kd.string 9 w' w.heap.size (fun _ => True) ar r6 ∧ Below w.heap.size w w' := by
  unfold manifest_Decode.f at h
  obtain ⟨⟨n1, t1, f1⟩, h1, h⟩ := Option.bind_eq_some_iff.1 h
  obtain ⟨⟨n2, t2, f2⟩, h2, h⟩ := Option.bind_eq_some_iff.1 h
  obtain ⟨⟨n3, t3, f3⟩, h3, h⟩ := Option.bind_eq_some_iff.1 h
  obtain ⟨⟨n4, t4, f4⟩, h4, h⟩ := Option.bind_eq_some_iff.1 h
  obtain ⟨⟨n5, t5, f5⟩, h5, h⟩ := Option.bind_eq_some_iff.1 h
  obtain ⟨⟨n6, t6, f6⟩, h6, h⟩ := Option.bind_eq_some_iff.1 h
  obtain ⟨⟨n7, t7, f7⟩, h7, h⟩ := Option.bind_eq_some_iff.1 h
  dsimp only at h1 h2 h3 h4 h5 h6 h7 h
  have HH := aK (And.intro h1 (And.intro h2 (And.intro h3 (And.intro h4 (And.intro h5 (And.intro h6 (And.intro h7 h)))))))
  have HR := aK (And.intro ac aq)
  clear h h1 h2 h3 h4 h5 h6 h7 ac aq
  go_enter Tryz.func10, Tryz.ntmps10
  go_wp2_with fail
  go_at_call 30
  generalize hW : ((((((w.alloc _).alloc _).alloc _).alloc _).alloc _).alloc _) = W
  have au : Below w.heap.size w W := by rw [← hW]; exact below_alloc (below_alloc (below_alloc (below_alloc (below_alloc (below_alloc (Below.refl _ _) _) _) _) _) _) _
  have g5 : W.heap[w.heap.size + 5]? = some (.cells zE 30 (0, 0)) := by rw [← hW]; exact (congrArg (fun n => (((((((w.alloc _).alloc _).alloc _).alloc _).alloc _).alloc _) : World).heap[n]?) (by simp)).trans (heap_alloc_new _ _)
  have g4 : W.heap[w.heap.size + 4]? = some (.cells #[.func (.func 29) #[] #[.pointer (some ⟨w.heap.size + 3, 0, none⟩), .pointer (some ⟨w.heap.size + 2, 0, none⟩)]] 53 (0, 0)) := by rw [← hW]; exact blk_alloc ((congrArg (fun n => ((((((w.alloc _).alloc _).alloc _).alloc _).alloc _) : World).heap[n]?) (by simp)).trans (heap_alloc_new _ _)) _
  have g3 : W.heap[w.heap.size + 3]? = some (.cells #[.int .i64 0] 25 (0, 0)) := by rw [← hW]; exact blk_alloc (blk_alloc ((congrArg (fun n => (((((w.alloc _).alloc _).alloc _).alloc _) : World).heap[n]?) (by simp)).trans (heap_alloc_new _ _)) _) _
  have g2 : W.heap[w.heap.size + 2]? = some (.cells #[.int .i64 0] 3 (0, 0)) := by rw [← hW]; exact blk_alloc (blk_alloc (blk_alloc ((congrArg (fun n => ((((w.alloc _).alloc _).alloc _) : World).heap[n]?) (by simp)).trans (heap_alloc_new _ _)) _) _) _
  have g1 : W.heap[w.heap.size + 1]? = some (.cells zE 30 (0, 0)) := by rw [← hW]; exact blk_alloc (blk_alloc (blk_alloc (blk_alloc ((congrArg (fun n => (((w.alloc _).alloc _) : World).heap[n]?) (by simp)).trans (heap_alloc_new _ _)) _) _) _) _
  have g0 : W.heap[w.heap.size]? = some (.cells #[.slice A0 l0.length c0] 31 (0, 0)) := by rw [← hW]; exact blk_alloc (blk_alloc (blk_alloc (blk_alloc (blk_alloc (heap_alloc_new _ _) _) _) _) _) _
  have HD := aK (show DS w W A0 c0 l0 0 0 from ⟨au, g0, g2, g3, g4, HR.out.1, HR.out.2⟩)
  have HE := aK (show ES w W 0 0 0 (.slice none 0 0) (.slice none 0 0) (.slice none 0 0) [] [] [] from ⟨g5, g1, Kd.R_nil _ _ _ _ _, Kd.R_nil _ _ _ _ _, Kd.R_nil _ _ _ _ _⟩)
  clear au g0 g1 g2 g3 g4 g5 hW
  simp only [Nat.add_assoc, Nat.reduceAdd]
  refine (number30 k HD.out HH.out.1).mono ?_
  rintro e w1 ⟨rfl, hd_, hk_⟩
  have he_ := HE.out.kp hk_
  have hcx : w1.cell? ⟨w.heap.size + 5, 0, none⟩ = some (.int .i64 0) := (blk_cell he_.bx 0).trans rfl
  have hzx := blk_frozen he_.bx 0
  have aa := aK (hd_.far (g := w.heap.size + 5) (o := 0) (by omega) (.int .i64 n1))
  have ab := aK (he_.set0 n1)
  clear HD HE hd_ hk_ he_
  have HD := aa; have HE := ab; clear aa ab
  go_wp2_with fail
  go_at_call 30
  refine (number30 k HD.out HH.out.2.1).mono ?_
  rintro e w2 ⟨rfl, hd_, hk_⟩
  have he_ := HE.out.kp hk_
  have hcx : w2.cell? ⟨w.heap.size + 5, 1, none⟩ = some (.int .i64 0) := (blk_cell he_.bx 1).trans rfl
  have hzx := blk_frozen he_.bx 1
  have aa := aK (hd_.far (g := w.heap.size + 5) (o := 1) (by omega) (.int .i64 n2))
  have ab := aK (he_.set1 n2)
  clear HD HE hd_ hk_ he_
  have HD := aa; have HE := ab; clear aa ab
  go_wp2_with fail
  go_at_call 30
  refine (number30 k HD.out HH.out.2.2.1).mono ?_
  rintro e w3 ⟨rfl, hd_, hk_⟩
  have he_ := HE.out.kp hk_
  have hcx : w3.cell? ⟨w.heap.size + 5, 2, none⟩ = some (.int .i64 0) := (blk_cell he_.bx 2).trans rfl
  have hzx := blk_frozen he_.bx 2
  have aa := aK (hd_.far (g := w.heap.size + 5) (o := 2) (by omega) (.int .i64 n3))
  have ab := aK (he_.set2 n3)
  clear HD HE hd_ hk_ he_
  have HD := aa; have HE := ab; clear aa ab
  go_wp2_with fail
  go_at_call 33
  refine (numbers33 k HD.out HH.out.2.2.2.1).mono ?_
  rintro e w4 ⟨u4, rfl, hr_, hd_, hk_⟩
  obtain ⟨B4, d4, rfl⟩ := Kd.R_slice hr_
  have he_ := HE.out.kp hk_
  have hcx : w4.cell? ⟨w.heap.size + 5, 3, none⟩ = some (.slice none 0 0) := (blk_cell he_.bx 3).trans rfl
  have hzx := blk_frozen he_.bx 3
  have aa := aK (hd_.far (g := w.heap.size + 5) (o := 3) (by omega) (.slice B4 n4.length d4))
  have ab := aK (HE.out.set3 hk_ hr_)
  clear HD HE hd_ hk_ he_ hr_
  have HD := aa; have HE := ab; clear aa ab
  go_wp2_with fail
  go_at_call 33
  refine (numbers33 k HD.out HH.out.2.2.2.2.1).mono ?_
  rintro e w5 ⟨u5, rfl, hr_, hd_, hk_⟩
  obtain ⟨B5, d5, rfl⟩ := Kd.R_slice hr_
  have he_ := HE.out.kp hk_
  have hcx : w5.cell? ⟨w.heap.size + 5, 4, none⟩ = some (.slice none 0 0) := (blk_cell he_.bx 4).trans rfl
  have hzx := blk_frozen he_.bx 4
  have aa := aK (hd_.far (g := w.heap.size + 5) (o := 4) (by omega) (.slice B5 n5.length d5))
  have ab := aK (HE.out.set4 hk_ hr_)
  clear HD HE hd_ hk_ he_ hr_
  have HD := aa; have HE := ab; clear aa ab
  go_wp2_with fail
  go_at_call 30
  refine (number30 k HD.out HH.out.2.2.2.2.2.1).mono ?_
  rintro e w6 ⟨rfl, hd_, hk_⟩
  have ab := aK (HE.out.kp hk_)
  have aa := aK hd_
  clear HD HE hd_ hk_ hcx hzx
  have HD := aa; have HE := ab; clear aa ab
  have H7 := aK HH.out.2.2.2.2.2.2.1
  have H8 := aK HH.out.2.2.2.2.2.2.2
  clear HH
  go_wp2
  go_loopg [11] k (fun kq av w' => ∃ (i at_ first : Int) (on : List ByteArray) (v5 : Value), av = .int .i64 i ∧ Aside0 (dstrs k l0 kq i n6 at_ first on = some (n7, t7, f7)) ∧ Aside0 (DS w w' A0 c0 l0 at_ first) ∧ Aside0 (ES w w' n1 n2 n3 (.slice B4 n4.length d4) (.slice B5 n5.length d5) v5 n4 n5 on))
  case atStart => exact ⟨0, t6, f6, [], .slice none 0 0, rfl, H7, HD, HE⟩
  case round =>
    obtain ⟨i, at_, first, on, v5, rfl, HA, HD, HE⟩ := hrel
    have hcf : wr.cell? ⟨w.heap.size + 3, 0, none⟩ = some (.int .i64 first) := (blk_cell HD.out.bf 0).trans rfl
    cases gk with
    | zero => exact absurd HA.out (by simp [dstrs])
    | succ k1 =>
      have hA := HA.out
      rw [dstrs] at hA
      clear HA
      by_cases c1 : i < n6
      · rw [if_pos c1] at hA
        have aw : decide (i < n6) = true := decide_eq_true c1
        by_cases hf : first = 0
        · subst hf
          rw [if_pos rfl] at hA
          split at hA
          case isFalse => cases hA
          rename_i hlen
          obtain ⟨⟨s1, s2, s3⟩, hget, hA⟩ := Option.bind_eq_some_iff.1 hA
          dsimp only at hA
          have hcr : wr.cell? ⟨w.heap.size + 4, 0, none⟩ = some (.func (.func 29) #[] #[.pointer (some ⟨w.heap.size + 3, 0, none⟩), .pointer (some ⟨w.heap.size + 2, 0, none⟩)]) := (blk_cell HD.out.br 0).trans rfl
          have hc := c36 k HD.out HE.out.bx HE.out.r5 hlen hget
          have hcl := aK (read_go36 HD.out _ _ _ s2 s3 _ hc (fun w1 hp => by
            obtain ⟨v, w2, nd, hg, hB, hr, rfl⟩ := hp
            exact HD.out.put HE.out hg hB))
          have HN := aK hA
          clear hc hget hA hlen
          by_cases he : s3 = 0
          · subst he
            rw [if_pos rfl] at HN
            go_wp2_with (first
              | (go_at_call 29
                 refine hcl.out.mono ?_
                 rintro e w3 ⟨rfl, w4, ⟨v, w5, nd, hg, hB, hr, rfl⟩, rfl⟩
                 have aa := aK ((HD.out.put HE.out hg hB (v := v)).setAt s2)
                 have ab := aK ((HE.out.put hg hr).kp ((Kp.refl w _).setAt (.int .i64 s2)))
                 clear HD HE hcl hg hB hr hcf hcr
                 have HD := aa; have HE := ab; clear aa ab
                 rw [if_pos rfl]))
            go_roundg k1
            case measure => omega
            case rel => exact ⟨wrap64 (i + 1), s2, 0, on ++ [s1], _, rfl, HN, HD, HE⟩
          · rw [if_neg he] at HN
            go_wp2_with (first
              | (go_at_call 29
                 refine hcl.out.mono ?_
                 rintro e w3 ⟨rfl, w4, ⟨v, w5, nd, hg, hB, hr, rfl⟩, rfl⟩
                 have aa := aK ((HD.out.put HE.out hg hB (v := v)).setFirst s3)
                 have ab := aK ((HE.out.put hg hr).kp ((Kp.refl w _).setFirst (.int .i64 s3)))
                 clear HD HE hcl hg hB hr hcf hcr
                 have HD := aa; have HE := ab; clear aa ab
                 rw [if_neg he]))
            go_roundg k1
            case measure => omega
            case rel => exact ⟨wrap64 (i + 1), at_, s3, on ++ [s1], _, rfl, HN, HD, HE⟩
        · rw [if_neg hf] at hA
          simp only [Option.some.injEq, Prod.mk.injEq] at hA
          obtain ⟨rfl, rfl, rfl⟩ := hA
          have hfb : (first == 0) = false := by simpa using hf
          have hfn : (first != 0) = true := by simpa using hf
          have h8 := H8.out
          rw [if_neg hf] at h8
          simp only [Option.some.injEq, Prod.mk.injEq] at h8
          obtain ⟨rfl, rfl, rfl, rfl, rfl, rfl, rfl⟩ := h8
          have hca : wr.cell? ⟨w.heap.size + 2, 0, none⟩ = some (.int .i64 at_) := (blk_cell HD.out.ba 0).trans rfl
          have hcb : wr.cell? ⟨w.heap.size, 0, none⟩ = some (.slice A0 l0.length c0) := (blk_cell HD.out.bb 0).trans rfl
          have ac : wr.cell? ⟨w.heap.size + 1, 0, none⟩ = some (.int .i64 0) := (blk_cell HE.out.br 0).trans rfl
          have af : wr.cell? ⟨w.heap.size + 1, 1, none⟩ = some (.int .i64 0) := (blk_cell HE.out.br 1).trans rfl
          have ag : wr.cell? ⟨w.heap.size + 1, 2, none⟩ = some (.int .i64 0) := (blk_cell HE.out.br 2).trans rfl
          have ah : wr.cell? ⟨w.heap.size + 1, 3, none⟩ = some (.slice none 0 0) := (blk_cell HE.out.br 3).trans rfl
          have ai : wr.cell? ⟨w.heap.size + 1, 4, none⟩ = some (.slice none 0 0) := (blk_cell HE.out.br 4).trans rfl
          have aj : wr.cell? ⟨w.heap.size + 1, 5, none⟩ = some (.slice none 0 0) := (blk_cell HE.out.br 5).trans rfl
          have ak := blk_frozen HE.out.br 0
          have al := blk_frozen HE.out.br 1
          have am := blk_frozen HE.out.br 2
          have an := blk_frozen HE.out.br 3
          have ao := blk_frozen HE.out.br 4
          have ap := blk_frozen HE.out.br 5
          go_wp2
          refine bodyPost_ret (results_ct rfl _ _ (w.heap.size + 1) 30 #[.int .i64 0, .int .i64 0, .int .i64 0, .slice none 0 0, .slice none 0 0, .slice none 0 0] (0, 0) _ rfl ?hb Tryz.underlying30 rfl (by kernel_rfl)) rfl ?_
          case hb =>
            refine blk_put (cs := #[.int .i64 0, .int .i64 0, .int .i64 0, .slice none 0 0, .slice none 0 0, .slice none 0 0]) ?_ 5 _ rfl
            refine blk_put (cs := #[.int .i64 0, .int .i64 0, .int .i64 0, .slice none 0 0, .slice none 0 0, .slice none 0 0]) ?_ 4 _ rfl
            refine blk_put (cs := #[.int .i64 0, .int .i64 0, .int .i64 0, .slice none 0 0, .slice none 0 0, .slice none 0 0]) ?_ 3 _ rfl
            refine blk_put (cs := #[.int .i64 0, .int .i64 0, .int .i64 0, .slice none 0 0, .slice none 0 0, .slice none 0 0]) ?_ 2 _ rfl
            refine blk_put (cs := #[.int .i64 0, .int .i64 0, .int .i64 0, .slice none 0 0, .slice none 0 0, .slice none 0 0]) ?_ 1 _ rfl
            refine blk_put (cs := #[.int .i64 0, .int .i64 0, .int .i64 0, .slice none 0 0, .slice none 0 0, .slice none 0 0]) ?_ 0 _ rfl
            exact HE.out.br
          exact ⟨_, _, _, rfl, Kd.R_nil _ _ _ _ _, Kd.R_nil _ _ _ _ _, Kd.R_nil _ _ _ _ _, by (repeat (refine Below.setCell ?_ (Nat.le_add_right _ _) _)); exact HD.out.bel⟩
      · rw [if_neg c1] at hA
        have aw : decide (i < n6) = false := decide_eq_false c1
        simp only [Option.some.injEq, Prod.mk.injEq] at hA
        obtain ⟨rfl, rfl, rfl⟩ := hA
        by_cases hf : first = 0
        · subst hf
          have h8 := H8.out
          rw [if_pos rfl] at h8
          by_cases ht : at_ = (l0.length : Int)
          · rw [if_pos ht] at h8
            simp only [Option.some.injEq, Prod.mk.injEq] at h8
            obtain ⟨rfl, rfl, rfl, rfl, rfl, rfl, rfl⟩ := h8
            have htb : (at_ != (l0.length : Int)) = false := by simpa using ht
            have hca : wr.cell? ⟨w.heap.size + 2, 0, none⟩ = some (.int .i64 at_) := (blk_cell HD.out.ba 0).trans rfl
            have hcb : wr.cell? ⟨w.heap.size, 0, none⟩ = some (.slice A0 l0.length c0) := (blk_cell HD.out.bb 0).trans rfl
            have ac : wr.cell? ⟨w.heap.size + 1, 0, none⟩ = some (.int .i64 0) := (blk_cell HE.out.br 0).trans rfl
            have af : wr.cell? ⟨w.heap.size + 1, 1, none⟩ = some (.int .i64 0) := (blk_cell HE.out.br 1).trans rfl
            have ag : wr.cell? ⟨w.heap.size + 1, 2, none⟩ = some (.int .i64 0) := (blk_cell HE.out.br 2).trans rfl
            have ah : wr.cell? ⟨w.heap.size + 1, 3, none⟩ = some (.slice none 0 0) := (blk_cell HE.out.br 3).trans rfl
            have ai : wr.cell? ⟨w.heap.size + 1, 4, none⟩ = some (.slice none 0 0) := (blk_cell HE.out.br 4).trans rfl
            have aj : wr.cell? ⟨w.heap.size + 1, 5, none⟩ = some (.slice none 0 0) := (blk_cell HE.out.br 5).trans rfl
            have ak := blk_frozen HE.out.br 0
            have al := blk_frozen HE.out.br 1
            have am := blk_frozen HE.out.br 2
            have an := blk_frozen HE.out.br 3
            have ao := blk_frozen HE.out.br 4
            have ap := blk_frozen HE.out.br 5
            obtain ⟨B6, d6, rfl⟩ := Kd.R_slice HE.out.r5
            have ax : wr.cell? ⟨w.heap.size + 5, 0, none⟩ = some (.int .i64 n1) := (blk_cell HE.out.bx 0).trans rfl
            have ay : wr.cell? ⟨w.heap.size + 5, 1, none⟩ = some (.int .i64 n2) := (blk_cell HE.out.bx 1).trans rfl
            have az : wr.cell? ⟨w.heap.size + 5, 2, none⟩ = some (.int .i64 n3) := (blk_cell HE.out.bx 2).trans rfl
            have aA : wr.cell? ⟨w.heap.size + 5, 3, none⟩ = some (.slice B4 n4.length d4) := (blk_cell HE.out.bx 3).trans rfl
            have aB : wr.cell? ⟨w.heap.size + 5, 4, none⟩ = some (.slice B5 n5.length d5) := (blk_cell HE.out.bx 4).trans rfl
            have aC : wr.cell? ⟨w.heap.size + 5, 5, none⟩ = some (.slice B6 on.length d6) := (blk_cell HE.out.bx 5).trans rfl
            go_wp2
            refine bodyPost_ret (results_ct rfl _ _ (w.heap.size + 1) 30 #[.int .i64 n1, .int .i64 n2, .int .i64 n3, .slice B4 n4.length d4, .slice B5 n5.length d5, .slice B6 on.length d6] (0, 0) _ rfl ?hb Tryz.underlying30 rfl (by kernel_rfl)) rfl ?_
            case hb =>
              refine blk_put (cs := #[.int .i64 n1, .int .i64 n2, .int .i64 n3, .slice B4 n4.length d4, .slice B5 n5.length d5, .slice none 0 0]) ?_ 5 _ rfl
              refine blk_put (cs := #[.int .i64 n1, .int .i64 n2, .int .i64 n3, .slice B4 n4.length d4, .slice none 0 0, .slice none 0 0]) ?_ 4 _ rfl
              refine blk_put (cs := #[.int .i64 n1, .int .i64 n2, .int .i64 n3, .slice none 0 0, .slice none 0 0, .slice none 0 0]) ?_ 3 _ rfl
              refine blk_put (cs := #[.int .i64 n1, .int .i64 n2, .int .i64 0, .slice none 0 0, .slice none 0 0, .slice none 0 0]) ?_ 2 _ rfl
              refine blk_put (cs := #[.int .i64 n1, .int .i64 0, .int .i64 0, .slice none 0 0, .slice none 0 0, .slice none 0 0]) ?_ 1 _ rfl
              refine blk_put (cs := #[.int .i64 0, .int .i64 0, .int .i64 0, .slice none 0 0, .slice none 0 0, .slice none 0 0]) ?_ 0 _ rfl
              exact HE.out.br
            exact ⟨_, _, _, rfl, Kd.R_lower (by (repeat (refine R_res ?_ _ _)); exact HE.out.r3) (Nat.le_add_right _ 6), Kd.R_lower (by (repeat (refine R_res ?_ _ _)); exact HE.out.r4) (Nat.le_add_right _ 6), Kd.R_lower (by (repeat (refine R_res ?_ _ _)); exact HE.out.r5) (Nat.le_add_right _ 6), by (repeat (refine Below.setCell ?_ (Nat.le_add_right _ _) _)); exact HD.out.bel⟩
          · rw [if_neg ht] at h8
            simp only [Option.some.injEq, Prod.mk.injEq] at h8
            obtain ⟨rfl, rfl, rfl, rfl, rfl, rfl, rfl⟩ := h8
            have htb : (at_ != (l0.length : Int)) = true := by simpa using ht
            have hca : wr.cell? ⟨w.heap.size + 2, 0, none⟩ = some (.int .i64 at_) := (blk_cell HD.out.ba 0).trans rfl
            have hcb : wr.cell? ⟨w.heap.size, 0, none⟩ = some (.slice A0 l0.length c0) := (blk_cell HD.out.bb 0).trans rfl
            have ac : wr.cell? ⟨w.heap.size + 1, 0, none⟩ = some (.int .i64 0) := (blk_cell HE.out.br 0).trans rfl
            have af : wr.cell? ⟨w.heap.size + 1, 1, none⟩ = some (.int .i64 0) := (blk_cell HE.out.br 1).trans rfl
            have ag : wr.cell? ⟨w.heap.size + 1, 2, none⟩ = some (.int .i64 0) := (blk_cell HE.out.br 2).trans rfl
            have ah : wr.cell? ⟨w.heap.size + 1, 3, none⟩ = some (.slice none 0 0) := (blk_cell HE.out.br 3).trans rfl
            have ai : wr.cell? ⟨w.heap.size + 1, 4, none⟩ = some (.slice none 0 0) := (blk_cell HE.out.br 4).trans rfl
            have aj : wr.cell? ⟨w.heap.size + 1, 5, none⟩ = some (.slice none 0 0) := (blk_cell HE.out.br 5).trans rfl
            have ak := blk_frozen HE.out.br 0
            have al := blk_frozen HE.out.br 1
            have am := blk_frozen HE.out.br 2
            have an := blk_frozen HE.out.br 3
            have ao := blk_frozen HE.out.br 4
            have ap := blk_frozen HE.out.br 5
            go_wp2
            refine bodyPost_ret (results_ct rfl _ _ (w.heap.size + 1) 30 #[.int .i64 0, .int .i64 0, .int .i64 0, .slice none 0 0, .slice none 0 0, .slice none 0 0] (0, 0) _ rfl ?hb Tryz.underlying30 rfl (by kernel_rfl)) rfl ?_
            case hb =>
              refine blk_put (cs := #[.int .i64 0, .int .i64 0, .int .i64 0, .slice none 0 0, .slice none 0 0, .slice none 0 0]) ?_ 5 _ rfl
              refine blk_put (cs := #[.int .i64 0, .int .i64 0, .int .i64 0, .slice none 0 0, .slice none 0 0, .slice none 0 0]) ?_ 4 _ rfl
              refine blk_put (cs := #[.int .i64 0, .int .i64 0, .int .i64 0, .slice none 0 0, .slice none 0 0, .slice none 0 0]) ?_ 3 _ rfl
              refine blk_put (cs := #[.int .i64 0, .int .i64 0, .int .i64 0, .slice none 0 0, .slice none 0 0, .slice none 0 0]) ?_ 2 _ rfl
              refine blk_put (cs := #[.int .i64 0, .int .i64 0, .int .i64 0, .slice none 0 0, .slice none 0 0, .slice none 0 0]) ?_ 1 _ rfl
              refine blk_put (cs := #[.int .i64 0, .int .i64 0, .int .i64 0, .slice none 0 0, .slice none 0 0, .slice none 0 0]) ?_ 0 _ rfl
              exact HE.out.br
            exact ⟨_, _, _, rfl, Kd.R_nil _ _ _ _ _, Kd.R_nil _ _ _ _ _, Kd.R_nil _ _ _ _ _, by (repeat (refine Below.setCell ?_ (Nat.le_add_right _ _) _)); exact HD.out.bel⟩
        · have hfn : (first != 0) = true := by simpa using hf
          have h8 := H8.out
          rw [if_neg hf] at h8
          simp only [Option.some.injEq, Prod.mk.injEq] at h8
          obtain ⟨rfl, rfl, rfl, rfl, rfl, rfl, rfl⟩ := h8
          have hca : wr.cell? ⟨w.heap.size + 2, 0, none⟩ = some (.int .i64 at_) := (blk_cell HD.out.ba 0).trans rfl
          have hcb : wr.cell? ⟨w.heap.size, 0, none⟩ = some (.slice A0 l0.length c0) := (blk_cell HD.out.bb 0).trans rfl
          have ac : wr.cell? ⟨w.heap.size + 1, 0, none⟩ = some (.int .i64 0) := (blk_cell HE.out.br 0).trans rfl
          have af : wr.cell? ⟨w.heap.size + 1, 1, none⟩ = some (.int .i64 0) := (blk_cell HE.out.br 1).trans rfl
          have ag : wr.cell? ⟨w.heap.size + 1, 2, none⟩ = some (.int .i64 0) := (blk_cell HE.out.br 2).trans rfl
          have ah : wr.cell? ⟨w.heap.size + 1, 3, none⟩ = some (.slice none 0 0) := (blk_cell HE.out.br 3).trans rfl
          have ai : wr.cell? ⟨w.heap.size + 1, 4, none⟩ = some (.slice none 0 0) := (blk_cell HE.out.br 4).trans rfl
          have aj : wr.cell? ⟨w.heap.size + 1, 5, none⟩ = some (.slice none 0 0) := (blk_cell HE.out.br 5).trans rfl
          have ak := blk_frozen HE.out.br 0
          have al := blk_frozen HE.out.br 1
          have am := blk_frozen HE.out.br 2
          have an := blk_frozen HE.out.br 3
          have ao := blk_frozen HE.out.br 4
          have ap := blk_frozen HE.out.br 5
          go_wp2
          refine bodyPost_ret (results_ct rfl _ _ (w.heap.size + 1) 30 #[.int .i64 0, .int .i64 0, .int .i64 0, .slice none 0 0, .slice none 0 0, .slice none 0 0] (0, 0) _ rfl ?hb Tryz.underlying30 rfl (by kernel_rfl)) rfl ?_
          case hb =>
            refine blk_put (cs := #[.int .i64 0, .int .i64 0, .int .i64 0, .slice none 0 0, .slice none 0 0, .slice none 0 0]) ?_ 5 _ rfl
            refine blk_put (cs := #[.int .i64 0, .int .i64 0, .int .i64 0, .slice none 0 0, .slice none 0 0, .slice none 0 0]) ?_ 4 _ rfl
            refine blk_put (cs := #[.int .i64 0, .int .i64 0, .int .i64 0, .slice none 0 0, .slice none 0 0, .slice none 0 0]) ?_ 3 _ rfl
            refine blk_put (cs := #[.int .i64 0, .int .i64 0, .int .i64 0, .slice none 0 0, .slice none 0 0, .slice none 0 0]) ?_ 2 _ rfl
            refine blk_put (cs := #[.int .i64 0, .int .i64 0, .int .i64 0, .slice none 0 0, .slice none 0 0, .slice none 0 0]) ?_ 1 _ rfl
            refine blk_put (cs := #[.int .i64 0, .int .i64 0, .int .i64 0, .slice none 0 0, .slice none 0 0, .slice none 0 0]) ?_ 0 _ rfl
            exact HE.out.br
          exact ⟨_, _, _, rfl, Kd.R_nil _ _ _ _ _, Kd.R_nil _ _ _ _ _, Kd.R_nil _ _ _ _ _, by (repeat (refine Below.setCell ?_ (Nat.le_add_right _ _) _)); exact HD.out.bel⟩
def tabZ (i : Int) : Int := tabV i.toNat
theorem tabA_get (i : Int) (h0 : 0 ≤ i) (h1 : i < 16) : (tabA 16)[i.toNat]? = some (.int .u32 (tabZ i)) := by
  have h : i.toNat < 16 := by omega
  simp [tabA, tabZ, h]
theorem and15 (x : Int) : 0 ≤ Go.bits .and .u32 x 15 ∧ Go.bits .and .u32 x 15 < 16 := by
  refine ⟨bits_nonneg_u32 _ _ _, ?_⟩
  unfold Go.bits
  have h : (BitVec.ofInt IntKind.u32.bits x &&& BitVec.ofInt IntKind.u32.bits 15).toNat ≤ 15 := by
    rw [BitVec.toNat_and]
    exact Nat.le_trans Nat.and_le_right (by decide)
  show IntKind.u32.wrap ((BitVec.ofInt IntKind.u32.bits x &&& BitVec.ofInt IntKind.u32.bits 15).toNat : Int) < 16
  rw [IntKind.wrap_u32]
  omega
def crcHalf (x : Int) : Int := Go.bits .xor .u32 (x / 16) (tabZ (Go.bits .and .u32 x 15))
def crcIn (x c : Int) : Int := crcHalf (crcHalf (Go.bits .xor .u32 x (c % 4294967296)))
def checksum_Extend.f (a0 : Int) (l1 : List Int) : Option Int := some (Go.bits .xor .u32 4294967295 (l1.foldl crcIn (Go.bits .xor .u32 4294967295 a0)))
theorem foldl_take (l : List Int) (z : Int) (i : Nat) (h : i < l.length) : (l.take (i + 1)).foldl crcIn z = crcIn ((l.take i).foldl crcIn z) (rd l (i : Int)) := by
  rw [List.take_succ_eq_append_getElem h, List.foldl_append]
  simp [rd, List.getD_eq_getElem?_getD, List.getElem?_eq_getElem h]
theorem checksum_Extend.calls (a0 : Int) (A1 : Option Addr) (c1 : Nat) (l1 : List Int) (r : Int) (w : World) (ab : Kd.C (Kd.int .u8) w A1 l1.length l1) (ah : l1.length ≤ c1) (h : checksum_Extend.f a0 l1 = some r) :
    Calls Tryz.prog 74 #[.int .u32 a0, .slice A1 l1.length c1] w fun e w' => e = .returned (.int .u32 r) ∧ Below w.heap.size w w' := by
  obtain rfl := Option.some.inj h
  clear h
  have HR := aK ab
  clear ab
  have hm : (l1.length : Int) ≤ 9223372036854775807 := by have := HR.out.2.1; omega
  have hsz : (Tryz.prog.info? 95).map (·.size) = some (tabA 16).size := by rw [tabA_size]; kernel_rfl
  have HZ := aK hsz
  clear hsz
  have hsg : IntKind.u32.signed = false := rfl
  have hmx : IntKind.u32.max = 4294967295 := rfl
  go_enter Tryz.func74, Tryz.ntmps74
  go_wp2_with fail
  refine (checksum_table.calls _).mono ?_
  rintro e w1 ⟨rfl, hb⟩
  have HB := aK (hb.alloc hb.size (.cells #[Value.int IntKind.u32 0, Value.int IntKind.u32 0, Value.int IntKind.u32 0, Value.int IntKind.u32 0, Value.int IntKind.u32 0, Value.int IntKind.u32 0, Value.int IntKind.u32 0, Value.int IntKind.u32 0, Value.int IntKind.u32 0, Value.int IntKind.u32 0, Value.int IntKind.u32 0, Value.int IntKind.u32 0, Value.int IntKind.u32 0, Value.int IntKind.u32 0, Value.int IntKind.u32 0, Value.int IntKind.u32 0] 95))
  have H5 := aK (heap_alloc_new w1 (.cells #[Value.int IntKind.u32 0, Value.int IntKind.u32 0, Value.int IntKind.u32 0, Value.int IntKind.u32 0, Value.int IntKind.u32 0, Value.int IntKind.u32 0, Value.int IntKind.u32 0, Value.int IntKind.u32 0, Value.int IntKind.u32 0, Value.int IntKind.u32 0, Value.int IntKind.u32 0, Value.int IntKind.u32 0, Value.int IntKind.u32 0, Value.int IntKind.u32 0, Value.int IntKind.u32 0, Value.int IntKind.u32 0] 95))
  have HS := aK hb.size
  clear hb
  go_wp2_with (first | (refine wpList_store_row rfl 95 (.tmp 5) (.tmp 9) rfl w1.heap.size (tabA 16) rfl rfl 95 _ H5.out HZ.out (by rw [tabA_size]; rfl) tabA_one ?_))
  have H6 := aK (setRow_heap _ _ _ (tabA 16) _ _ H5.out)
  have aa := aK (show Below w.heap.size w ((w1.alloc (.cells #[Value.int IntKind.u32 0, Value.int IntKind.u32 0, Value.int IntKind.u32 0, Value.int IntKind.u32 0, Value.int IntKind.u32 0, Value.int IntKind.u32 0, Value.int IntKind.u32 0, Value.int IntKind.u32 0, Value.int IntKind.u32 0, Value.int IntKind.u32 0, Value.int IntKind.u32 0, Value.int IntKind.u32 0, Value.int IntKind.u32 0, Value.int IntKind.u32 0, Value.int IntKind.u32 0, Value.int IntKind.u32 0] 95)).setRow w1.heap.size (tabA 16)) from ⟨HB.out.os, HB.out.tape, HB.out.output, by simpa using HB.out.size, fun i hi => (setRow_other _ _ _ _ (Nat.ne_of_lt (Nat.lt_of_lt_of_le hi HS.out))).trans (HB.out.block i hi)⟩)
  generalize (w1.alloc (.cells #[Value.int IntKind.u32 0, Value.int IntKind.u32 0, Value.int IntKind.u32 0, Value.int IntKind.u32 0, Value.int IntKind.u32 0, Value.int IntKind.u32 0, Value.int IntKind.u32 0, Value.int IntKind.u32 0, Value.int IntKind.u32 0, Value.int IntKind.u32 0, Value.int IntKind.u32 0, Value.int IntKind.u32 0, Value.int IntKind.u32 0, Value.int IntKind.u32 0, Value.int IntKind.u32 0, Value.int IntKind.u32 0] 95)).setRow w1.heap.size (tabA 16) = W at H6 aa ⊢
  generalize w1.heap.size = g at H6 ⊢
  clear H5 HB
  go_loop [6, 14] (fun x j => ∃ n : Nat, x = .int .u32 ((l1.take n).foldl crcIn (Go.bits .xor .u32 4294967295 a0)) ∧ j = .int .i64 n ∧ Aside0 (n ≤ l1.length)) (fun _ j => l1.length - (intOf j).toNat)
  case atStart =>
    exact ⟨0, rfl, rfl, ⟨Nat.zero_le _⟩⟩
  case round =>
    obtain ⟨n, rfl, rfl, hn⟩ := hrel
    by_cases hlt : (n : Int) < (l1.length : Int)
    · have hd : decide ((n : Int) < (l1.length : Int)) = true := decide_eq_true hlt
      have ac : decide (n < l1.length) = true := decide_eq_true (by omega)
      have ae : 0 ≤ (n : Int) := by omega
      have hfold := foldl_take l1 (Go.bits .xor .u32 4294967295 a0) n (by omega)
      have HF := aK hfold
      clear hfold
      generalize hx : (l1.take n).foldl crcIn (Go.bits .xor .u32 4294967295 a0) = x at HF ⊢
      clear hx
      obtain ⟨ad, e1, af⟩ := Kd.at_int (Kd.C_below HR.out aa.out) (n : Int) ae (by omega)
      cases e1
      rw [Int.toNat_natCast] at af
      have b1 := and15 (Go.bits .xor .u32 x (rd l1 n % 4294967296))
      have b2 := and15 (crcHalf (Go.bits .xor .u32 x (rd l1 n % 4294967296)))
      have ai : W.cell? ⟨g, (Go.bits .and .u32 (Go.bits .xor .u32 x (rd l1 n % 4294967296)) 15).toNat, none⟩ = some (.int .u32 (tabZ (Go.bits .and .u32 (Go.bits .xor .u32 x (rd l1 n % 4294967296)) 15))) := by
        rw [blk_cell H6.out]; exact tabA_get _ b1.1 b1.2
      have ag : W.cell? ⟨g, (Go.bits .and .u32 (crcHalf (Go.bits .xor .u32 x (rd l1 n % 4294967296))) 15).toNat, none⟩ = some (.int .u32 (tabZ (Go.bits .and .u32 (crcHalf (Go.bits .xor .u32 x (rd l1 n % 4294967296))) 15))) := by
        rw [blk_cell H6.out]; exact tabA_get _ b2.1 b2.2
      have aj := bits_nonneg_u32 .xor x (rd l1 n % 4294967296)
      unfold crcHalf at ag b2
      go_wp2
      go_round
      case rel => exact ⟨n + 1, by rw [HF.out]; rfl, by go_num, ⟨by omega⟩⟩
      case measure => simp [intOf]; omega
    · have hd : decide ((n : Int) < (l1.length : Int)) = false := decide_eq_false hlt
      have ac : decide (n < l1.length) = false := decide_eq_false (by omega)
      obtain rfl : n = l1.length := by have := hn.out; omega
      rw [List.take_length]
      go_wp2
      go_ret
      exact ⟨rfl, aa.out⟩
def checksum_Sum.f (l0 : List Int) : Option (Int) := (checksum_Extend.f 0 l0).bind fun aa => (some aa)
theorem checksum_Sum.calls (A0 : Option Addr) (c0 : Nat) (l0 : List Int) (r : Int) (w : World) (ad : Kd.C (Kd.int .u8) w A0 l0.length l0) (ae : l0.length ≤ c0) (h : checksum_Sum.f l0 = some r) :
  Calls Tryz.prog 62 #[.slice A0 l0.length c0] w fun e w' => e = .returned (.int .u32 r) ∧ Below w.heap.size w w' := by
 have ag := aK ad
 have ah := aK ae
 clear ad ae
 have HB := aK (Below.refl w.heap.size w)
 have H : ((checksum_Extend.f 0 l0).bind fun aa => (some aa)) = some r := h
 clear h
 replace H := Option.bind_eq_some_iff.mp H
 obtain ⟨aa,af,H⟩ := H
 have A2 := aK af
 clear af
 obtain rfl := Option.some.inj H
 go_enter Tryz.func62,Tryz.ntmps62
 go_wp2_with (first|((with_reducible refine gate_callee (f := 74) rfl ?_);refine gL 4 Tryz.func74 #[.int .u32 0,.slice A0 l0.length c0] ?_;(with_reducible refine (checksum_Extend.calls 0 _ _ l0 aa _ ?ab ?ac A2.out).mono ?_);(case ab => exact cM ag.out);(case ac => exact ah.out);rintro e w3 ⟨rfl,hb⟩;refine ⟨_,rfl,?_⟩;replace HB := aK (below_step (bM HB.out) hb);(try clear hb)))
 go_ret
 exact ⟨by first|rfl|(simp [errW_none,errW_some] <;> rfl)|(simp [*,errW_none,errW_some] <;> rfl),bM HB.out⟩
def slices_Clone_byte_byte.f (l0 : List Int) : Option (List Int) := (some (([] : List Int) : List Int)).bind fun aa => (if aa.length + l0.length < 140737488355328 then (some (aa ++ l0)) else (none))
theorem slices_Clone_byte_byte.calls (A0 : Option Addr) (c0 : Nat) (l0 : List Int) (r : List Int) (w : World) (ak : Kd.C (Kd.int .u8) w A0 l0.length l0) (ao : l0.length ≤ c0) (h : slices_Clone_byte_byte.f l0 = some r) :
  Calls Tryz.prog 63 #[.slice A0 l0.length c0] w fun e w' => ∃ ap : Value,e = .returned (ap) ∧ Kd.R (Kd.int .u8) 5 w' w.heap.size (fun _ => True) ap r ∧ Below w.heap.size w w' := by
 cases A0 with
|none =>
  obtain rfl : l0 = [] := by
   rcases Nat.eq_zero_or_pos l0.length with hl|hl
   ·exact List.eq_nil_of_length_eq_zero hl
   ·obtain ⟨ad,ea,_⟩ := ak.2.2 hl
    cases ea
  have hr : r = [] := by simpa [slices_Clone_byte_byte.f] using h.symm
  subst hr
  clear h
  go_enter Tryz.func63,Tryz.ntmps63
  go_wp2
  go_ret
  exact ⟨_,rfl,Kd.R_nil _ _ _ _ _,Below.refl _ _⟩
|some ad0 =>
  have aq := aK ak
  have au := aK ao
  clear ak ao
  have HB := aK (Below.refl w.heap.size w)
  have H : ((some (([] : List Int) : List Int)).bind fun aa => (if aa.length + l0.length < 140737488355328 then (some (aa ++ l0)) else (none))) = some r := h
  clear h
  obtain ⟨aa,ab⟩ : ∃ y_ : List Int,y_ = (([] : List Int)) := ⟨_,rfl⟩
  replace H : (if aa.length + l0.length < 140737488355328 then (some (aa ++ l0)) else (none)) = some r := by first|(rw [ab];with_reducible exact H)|(have af := (Option.bind_some _ _).symm.trans H;rw [ab];with_reducible exact af)|(have af := (Option.bind_some _ _).symm.trans H;with_reducible exact af)|with_reducible exact H|(rw [ab];exact H)|exact H
  have ae := aK ab
  clear ab
  by_cases c2 : aa.length + l0.length < 140737488355328
  ·rw [if_pos c2] at H
   have al := aK c2
   clear c2
   obtain ⟨am,ac⟩ : ∃ y_ : List Int,y_ = (aa ++ l0) := ⟨_,rfl⟩
   replace H : (some am) = some r := by first|(rw [ac];with_reducible exact H)|(have af := (Option.bind_some _ _).symm.trans H;rw [ac];with_reducible exact af)|(have af := (Option.bind_some _ _).symm.trans H;with_reducible exact af)|with_reducible exact H|(rw [ac];exact H)|exact H
   have ag := aK ac
   clear ac
   obtain rfl := Option.some.inj H
   go_enter Tryz.func63,Tryz.ntmps63
   go_wp2_with (first|((with_reducible refine gate_dst (N := 5) rfl ?_);refine Kd.R_lit (Kd.int .u8) _ 5 ?hg (N := 5) ?hd (xs := ([] : List Int)) (inner := []) (ok := fun _ => True) (okp := fun _ => True) ?hr ?hp (fun _ hk => hk) trivial (Below.refl _ _) (Nat.le_refl _) (by simp) ?_;(case hd => rfl);(case hg => rfl);(case hr => first|(go_simp;done)|(go_simp;rfl));(case hp => exact (Reps.none _ _));intro an w3 ah hb hg_ hnew_;clear hg_ hnew_;(first|rw [← ae.out] at ah|(simp only [Int.reduceToNat] at ah;rw [← ae.out] at ah));have ai := aK (Kd.R_lower ah (below_size (bM HB.out)));replace HB := aK (below_step (bM HB.out) hb);clear hb ah)|((with_reducible refine gate_builtin (b := .append) (xs := #[.tmp 5,.tmp 6]) rfl ?_);at_builtin;refine Kd.R_append_rows (Kd.int .u8) (w0 := w) w.heap.size rfl (.tmp 5) (.tmp 6) 31 5 (.int .u8 0) 1 rfl Tryz.underlying31 info5 rfl (by decide) (by omega) an aa l0 _ _ _ (fun _ => True) (fun _ => False) rfl rfl ?aO ?aR (fun _ _ h => h) (fun _ h => h.elim) ?aF ?aB ?aS ?aL ?_;(case aR => exact cM (Kd.C_below aq.out HB.out));(case aB => exact (bM HB.out));(case aF => exact (fun _ _ => trivial));(case aO => exact (rM ai.out));(case aS => exact (below_size (bM HB.out)));(case aL => have := al.out;omega);intro ar w5 ho hb hg hat;rw [← ag.out] at ho;replace HB := aK (hb);have aj := aK (ho);clear ho hb hg hat))
   go_ret
   exact ⟨_,by first|rfl|(simp [errW_none,errW_some] <;> rfl)|(simp [*,errW_none,errW_some] <;> rfl),rM aj.out,bM HB.out⟩
  ·rw [if_neg c2] at H
   exact absurd H (by simp)
end Go.Proofs.YtmgliocboeifdaaGreatDoor.F
