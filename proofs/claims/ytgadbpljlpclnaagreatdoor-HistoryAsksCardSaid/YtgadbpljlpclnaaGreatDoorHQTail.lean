/- A row of numbers of one's own that has been cut at its front: what lies from some place of its block on; appending to it. -/
import Derived.Test.YtgadbpljlpclnaaGreatDoorProg
import Derived.RowKit
import Derived.RowKit3
import Derived.WalkKit
import Derived.Below
import Derived.OwnWalk
import Derived.Laws.AppendOwn
import Derived.ArgAppend
namespace Go.Proofs.YtgadbpljlpclnaaGreatDoor.Q
open Go Go.RowKit
set_option linter.unusedVariables false
/-- v holds the cells xs (one cell each), at some place of a block that began at or behind base. -/
def ownTail (w : World) (base : Nat) (e : TypeId) (v : Value) (xs : List Value) : Prop :=
  ∃ g off cap cur, v = .slice (some ⟨g, off, none⟩) xs.length cap ∧ base ≤ g ∧ w.heap[g]? = some (.cells cur e (0, 0)) ∧ xs.length ≤ cap ∧ cap ≤ maxLen ∧ off + cap ≤ cur.size ∧ (cur.toList.drop off).take xs.length = xs
section
variable {P : Program} {w w1 : World} {base : Nat} {e : TypeId} {v : Value} {xs : List Value}
theorem ownTail.lt (h : ownTail w base e v xs) : ∀ k, v.ownBlock = some k → base ≤ k ∧ k < w.heap.size := by
  obtain ⟨g, off, cap, cur, rfl, hb, hg, _⟩ := h
  intro k hk
  obtain rfl := Option.some.inj hk
  exact ⟨hb, (Array.getElem?_eq_some_iff.1 hg).1⟩
theorem ownTail.kept {row : Option Nat} (h : ownTail w base e v xs) (hg : w.grownBy w1 row) (hne : v.ownBlock ≠ row) : ownTail w1 base e v xs := by
  obtain ⟨g, off, cap, cur, rfl, hb, hgg, rest⟩ := h
  exact ⟨g, off, cap, cur, rfl, hb, (hg.block g (Array.getElem?_eq_some_iff.1 hgg).1 hne).trans hgg, rest⟩
theorem ownTail.below (h : ownTail w base e v xs) (hb : Below w.heap.size w w1) : ownTail w1 base e v xs := by
  obtain ⟨g, off, cap, cur, rfl, hbg, hgg, rest⟩ := h
  exact ⟨g, off, cap, cur, rfl, hbg, (hb.block g (Array.getElem?_eq_some_iff.1 hgg).1).trans hgg, rest⟩
theorem ownTail.cell (h : ownTail w base e v xs) {g off n cap : Nat} (hv : v = .slice (some ⟨g, off, none⟩) n cap) (j : Nat) (u : Value) (hu : xs[j]? = some u) : w.cell? ⟨g, off + j, none⟩ = some u := by
  obtain ⟨g', off', cap', cur, rfl, hb, hgg, _, _, _, ht⟩ := h
  injection hv with h1 h2 h3
  injection h1 with h1
  injection h1 with h1 h4 h5
  subst h1; subst h4
  rw [cell_of_row w g' (off' + j) cur e (0, 0) hgg, ← Array.getElem?_toList]
  rw [← ht, List.getElem?_take] at hu
  split at hu
  · rwa [List.getElem?_drop] at hu
  · cases hu
/-- The slice behind its first. -/
theorem ownTail.tail {x : Value} {g off n cap : Nat} (h : ownTail w base e (.slice (some ⟨g, off, none⟩) n cap) (x :: xs)) : ownTail w base e (.slice (some (if cap = 1 then ⟨g, off, none⟩ else ⟨g, off + 1, none⟩)) (n - 1) (cap - 1)) xs := by
  obtain ⟨g', off', cap', cur, hv, hb, hgg, hc, hm, hs, ht⟩ := h
  injection hv with h1 h2 h3
  injection h1 with h1
  injection h1 with h1 h4 h5
  subst h1; subst h4; subst h2; subst h3
  rw [List.length_cons] at hc ht ⊢
  have hz : off < cur.toList.length := by rw [Array.length_toList (xs := cur)]; omega
  rw [List.drop_eq_getElem_cons hz, List.take_succ_cons] at ht
  obtain ⟨h6, h7⟩ := List.cons.inj ht
  by_cases h1 : cap = 1
  · have hx : xs = [] := List.eq_nil_of_length_eq_zero (by omega)
    subst hx
    rw [if_pos h1]
    exact ⟨g, off, cap - 1, cur, rfl, hb, hgg, Nat.zero_le _, by omega, by omega, by simp⟩
  · rw [if_neg h1]
    exact ⟨g, off + 1, cap - 1, cur, by simp, hb, hgg, by omega, by omega, by omega, h7⟩
theorem run_append_room_off (w : World) (t ty e : TypeId) (i : TypeInfo) (ht : P.underlying t = some (.slice e)) (hi : P.info? e = some i) (hs1 : i.size = 1)
    (g off sLen sCap : Nat) (cur : Array Value) (hg : w.heap[g]? = some (.cells cur e (0, 0)))
    (a : Addr) (m c : Nat) (news : List Value) (hl : news.length = m) (hnews : ∀ j u, news[j]? = some u → w.cell? (a.add j) = some u) (h1 : ∀ u ∈ news, u.oneCell' = true)
    (hroom : sLen + m ≤ sCap) (hfit : off + sLen + news.length ≤ cur.size) :
    (Builtin.append_ #[t, t] ty #[.slice (some ⟨g, off, none⟩) sLen sCap, .slice (some a) m c]).run P w =
      .ok (.slice (some ⟨g, off, none⟩) (sLen + m) sCap) (w.setRow g (cur.toList.take (off + sLen) ++ news ++ cur.toList.drop (off + sLen + news.length)).toArray) := by
  have hf := run_firstCells_some (P := P) w i.size m a m c news (by rw [hs1]; omega) hnews
  have hst := run_storeCells_at P g (off + sLen) e news 0 cur w hg (by simpa using hfit) h1
  simp only [Nat.add_zero] at hst
  simp only [hs1] at hf
  simp [Builtin.append_, run_underlying ht, sizeOf, typeInfo, hi, hs1, Builtin.lenOf, hroom, hf, Addr.add_lit, hst]
theorem run_append_tail (w : World) (base : Nat) (t ty e : TypeId) (i : TypeInfo) (z : Value) (bytes : Nat) (ht : P.underlying t = some (.slice e)) (hi : P.info? e = some i) (hz : i.zero = some z)
    (hsize : i.size = 1) (hby : i.bytes = bytes) (hzs : z.cells.size = 1) (v : Value) (xs : List Value) (hown : ownTail w base e v xs)
    (a : Addr) (m c : Nat) (news : List Value) (hl : news.length = m) (hnews : ∀ j u, news[j]? = some u → w.cell? (a.add j) = some u) (h1 : ∀ u ∈ news, u.oneCell' = true)
    (h63 : xs.length + m ≤ maxLen) (hbytes : (xs.length + m) * bytes ≤ 140737488355328) (hbase : base ≤ w.heap.size) :
    ∃ v' w', (Builtin.append_ #[t, t] ty #[v, .slice (some a) m c]).run P w = .ok v' w' ∧ ownTail w' base e v' (xs ++ news) ∧ w.grownBy w' v.ownBlock := by
  have hcl : ∀ g off n cap, v = .slice (some ⟨g, off, none⟩) n cap → ∀ j u, xs[j]? = some u → w.cell? ⟨g, off + j, none⟩ = some u := fun g off n cap hv => hown.cell hv
  obtain ⟨g, off, cap, cur, rfl, hb, hgg, hc, hm, hs, htk⟩ := hown
  have hlen : (xs ++ news).length = xs.length + m := by rw [List.length_append, hl]
  by_cases hroom : xs.length + m ≤ cap
  · refine ⟨_, _, run_append_room_off w t ty e i ht hi hsize g off xs.length cap cur hgg a m c news hl hnews h1 hroom (by omega), ?_, ?_⟩
    · have hdl : (cur.toList.take (off + xs.length)).length = off + xs.length := by rw [List.length_take, Array.length_toList (xs := cur)]; exact Nat.min_eq_left (by omega)
      refine ⟨g, off, cap, _, by rw [hlen], hb, setRow_heap w g cur _ e _ hgg, by omega, hm, ?_, ?_⟩
      · simp only [List.size_toArray, List.length_append, List.length_take, List.length_drop, Array.length_toList]
        omega
      · rw [hlen, List.append_assoc, List.drop_append_of_le_length (by rw [hdl]; omega)]
        have h5 : (cur.toList.take (off + xs.length)).drop off = xs := by
          rw [List.drop_take, Nat.add_sub_cancel_left]; exact htk
        rw [h5, ← List.append_assoc, ← hlen]
        exact List.take_left
    · exact ⟨rfl, rfl, rfl, by simp, fun k _ hk => setRow_other w g k _ (fun e => hk (by simp [Value.ownBlock, e]))⟩
  · obtain ⟨v', w', hr, ho, hgr⟩ := run_append_arg_grows (P := P) w t ty e i z 1 bytes ht hi hz hsize hby hzs (by decide) ⟨g, off, none⟩ xs.length cap xs (by omega) (fun j u hj => by rw [Addr.add_lit]; exact hcl _ _ _ _ rfl j u hj) a m c news (by omega) hnews (by omega) h63 hbytes
    refine ⟨v', w', hr, ?_, ⟨hgr.os, hgr.tape, hgr.output, hgr.size, fun k hk _ => hgr.block k hk (by simp)⟩⟩
    obtain ⟨h6, h7⟩ := ho
    rcases h7 with ⟨rfl, h0⟩ | ⟨g2, cap2, cur2, rfl, hb2, hgg2, hn2, hm2, hcs2, htk2⟩
    · have : xs.length + m = 0 := h0
      omega
    · refine ⟨g2, 0, cap2, cur2, by rw [hlen], by omega, hgg2, by rw [hlen]; exact hn2, hm2, by omega, ?_⟩
      rw [List.drop_zero, hlen]
      simpa using htk2
theorem run_append_tail_nil (w : World) (base c : Nat) (t ty e : TypeId) (i : TypeInfo) (ht : P.underlying t = some (.slice e)) (hi : P.info? e = some i) (hsize : i.size = 1) (v : Value) (xs : List Value) (hown : ownTail w base e v xs) :
    (Builtin.append_ #[t, t] ty #[v, .slice none 0 c]).run P w = .ok v w := by
  obtain ⟨g, off, cap, cur, rfl, hb, hgg, hc, hm, hs, htk⟩ := hown
  simp [Builtin.append_, run_underlying ht, sizeOf, typeInfo, hi, Builtin.lenOf, hc, run_firstCells_none, Addr.add_lit, storeCells]
/-- What is appended: a slice of one's own or of an argument, or nil. -/
def newCells (w : World) (x : Value) (news : List Value) : Prop := (∃ c, x = .slice none 0 c ∧ news = []) ∨ ∃ ad c, x = .slice (some ad) news.length c ∧ ∀ j u, news[j]? = some u → w.cell? (ad.add j) = some u
theorem wpList_append_tail (w : World) {ops : Array Oper} {rest : List Oper} {o : Oper} {a : Act} {Q : Exit → Act → World → Prop} (hgd : o.guard = none) (s x : Operand) (t : TypeId)
    (ho : o.op = .call { callee := .builtin .append, args := #[s, x], argTypes := #[t, t] })
    (base : Nat) (e : TypeId) (i : TypeInfo) (z : Value) (bytes : Nat) (ht : P.underlying t = some (.slice e)) (hi : P.info? e = some i) (hz : i.zero = some z)
    (hsize : i.size = 1) (hby : i.bytes = bytes) (hzs : z.cells.size = 1) (v : Value) (xs : List Value) (hs : a.eval s = v) (hown : ownTail w base e v xs)
    (xv : Value) (news : List Value) (hx : a.eval x = xv) (hn : newCells w xv news) (h1 : ∀ u ∈ news, u.oneCell' = true)
    (h63 : xs.length + news.length ≤ maxLen) (hbytes : (xs.length + news.length) * bytes ≤ 140737488355328) (hbase : base ≤ w.heap.size)
    (h : ∀ v' w', ownTail w' base e v' (xs ++ news) → w.grownBy w' v.ownBlock → wpList P ops Q rest (a.put o.dst v') w') : wpList P ops Q (o :: rest) a w := by
  refine wpList_plain hgd fun K hK' => ?_
  rcases hn with ⟨c, rfl, rfl⟩ | ⟨ad, c, rfl, hc⟩
  · have hr := run_append_tail_nil (P := P) w base c t o.type e i ht hi hsize v xs hown
    unfold Oper.wp execOp
    simp only [ho, resolve, invoke, builtin, Sem.run_bind, Sem.run_pure, Result.andThen_ok, List.map_toArray, List.map_cons, List.map_nil, hs, hx, hr]
    exact hK' _ _ (h v w (by simpa using hown) ⟨rfl, rfl, rfl, Nat.le_refl _, fun _ _ _ => rfl⟩)
  · obtain ⟨v', w', hr, h2, h3⟩ := run_append_tail (P := P) w base t o.type e i z bytes ht hi hz hsize hby hzs v xs hown ad news.length c news rfl hc h1 h63 hbytes hbase
    unfold Oper.wp execOp
    simp only [ho, resolve, invoke, builtin, Sem.run_bind, Sem.run_pure, Result.andThen_ok, List.map_toArray, List.map_cons, List.map_nil, hs, hx, hr]
    exact hK' _ _ (h v' w' h2 h3)
/-- 'v[1:]'. -/
theorem wpList_tail (w : World) {ops : Array Oper} {rest : List Oper} {o : Oper} {a : Act} {Q : Exit → Act → World → Prop} (hgd : o.guard = none) (s : Operand) (t : TypeId)
    (ho : o.op = .slice t s (some (.const (.int .i64 1))) none none)
    (base : Nat) (e : TypeId) (i : TypeInfo) (ht : P.underlying t = some (.slice e)) (hi : P.info? e = some i) (hsize : i.size = 1) (v u : Value) (xs : List Value) (hs : a.eval s = v) (hown : ownTail w base e v (u :: xs))
    (h : ∀ v', ownTail w base e v' xs → v'.ownBlock = v.ownBlock → wpList P ops Q rest (a.put o.dst v') w) : wpList P ops Q (o :: rest) a w := by
  refine wpList_plain hgd fun K hK' => ?_
  obtain ⟨g, off, cap, cur, hv, _, _, hc, _⟩ := id hown
  subst hv
  have ht1 := hown.tail
  rw [List.length_cons] at hc
  have hr : (Instr.slice t (.slice (some ⟨g, off, none⟩) (u :: xs).length cap) (some (.int .i64 1)) none none).run P w = .ok (.slice (some (if cap = 1 then ⟨g, off, none⟩ else ⟨g, off + 1, none⟩)) ((u :: xs).length - 1) (cap - 1)) w := by
    have hn : 1 ≤ (u :: xs).length := by simp
    generalize (u :: xs).length = n at hn
    have hn1 : (1 : Int) ≤ (n : Int) := by omega
    by_cases h1 : cap = 1
    · subst h1
      simp [Instr.slice, Instr.sliceBounds, Instr.sliceBound, asIntOf, run_underlying ht, sizeOf, typeInfo, hi, hsize]
      intro hlt; exfalso; omega
    · simp [Instr.slice, Instr.sliceBounds, Instr.sliceBound, asIntOf, run_underlying ht, sizeOf, typeInfo, hi, hsize, h1, Addr.add_lit]
      intro hlt; exfalso; omega
  have he : a.eval (.const (.int .i64 1)) = .int .i64 1 := rfl
  have hr2 : (Instr.sliceAt t (.slice (some ⟨g, off, none⟩) (xs.length + 1) cap) (some (.int .i64 1)) none none).run P w = .ok (.slice (some (if cap = 1 then ⟨g, off, none⟩ else ⟨g, off + 1, none⟩)) xs.length (cap - 1)) w := by
    simp only [Instr.sliceAt, Sem.run_bind, run_underlying ht, Result.andThen_ok]
    exact hr
  unfold Oper.wp
  simp [execOp, ho, hs, he, hr2, Result.andThen]
  refine hK' _ _ (h _ ht1 ?_)
  by_cases h1 : cap = 1
  · simp [h1, Value.ownBlock]
  · simp [h1, Value.ownBlock]
end
end Go.Proofs.YtgadbpljlpclnaaGreatDoor.Q
