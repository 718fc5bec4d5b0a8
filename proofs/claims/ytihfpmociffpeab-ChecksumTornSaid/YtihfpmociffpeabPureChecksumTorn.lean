/- ChecksumTorn: for every input the law's pure function answers true. -/
import Derived.Test.YtihfpmociffpeabStChecksumTorn
import Derived.Test.YtihfpmociffpeabRQAlive04
import Derived.Test.YtihfpmociffpeabRQAll
import Derived.Test.YtihfpmociffpeabRQForm
namespace Go.Proofs.Ytihfpmociffpeab.Pure
open Go.RowKit Go.Proofs.Ytihfpmociffpeab.R Go.Proofs.YtihfpmociffpeabW.PrintWords Go.Proofs.YtihfpmociffpeabW.PrintLast Go.Proofs.YtihfpmociffpeabW.PrintMore Go.Proofs.Ytihfpmociffpeab.Q Go.Proofs.Ytihfpmociffpeab.StChecksumTorn
set_option linter.unusedVariables false
set_option linter.unusedSimpArgs false

def sealsL : List (List Int) → List Int
  | [] => []
  | c :: l => sealL c ++ sealsL l
theorem sealsL_append (l m : List (List Int)) : sealsL (l ++ m) = sealsL l ++ sealsL m := by
  induction l with
  | nil => rfl
  | cons c l ih => simp only [List.cons_append, sealsL, ih, List.append_assoc]
def small (l : List (List Int)) : Prop := ∀ c ∈ l, c.length ≤ 60 ∧ ∀ x ∈ c, 0 ≤ x ∧ x < 256
theorem enc_one (n : Nat) (h : n ≤ 60) : enc7 10 (n : Int) = [(n : Int)] := by
  rw [enc7, if_neg (by omega)]
theorem seal_len (c : List Int) (h : c.length ≤ 60) : (sealL c).length = c.length + 5 := by
  simp only [sealL, four4, enc_one _ h, List.length_append, List.length_cons, List.length_nil]; omega
theorem seal_range (c : List Int) (h : c.length ≤ 60) (hc : ∀ x ∈ c, 0 ≤ x ∧ x < 256) : ∀ x ∈ sealL c, 0 ≤ x ∧ x < 256 := by
  intro x hx
  rcases List.mem_append.1 hx with h1 | h1
  · exact body_range c (by omega) hc x h1
  · exact four4_range _ x h1
theorem seals_len (l : List (List Int)) (h : small l) : (sealsL l).length ≤ 65 * l.length := by
  induction l with
  | nil => simp [sealsL]
  | cons c l ih =>
    have h1 := seal_len c (h c (by simp)).1
    have h2 := (h c (by simp)).1
    have h3 := ih (fun d hd => h d (by simp [hd]))
    simp only [sealsL, List.length_append, List.length_cons]
    omega
theorem seals_range (l : List (List Int)) (h : small l) : ∀ x ∈ sealsL l, 0 ≤ x ∧ x < 256 := by
  induction l with
  | nil => intro x hx; simp [sealsL] at hx
  | cons c l ih =>
    intro x hx
    rcases List.mem_append.1 hx with h1 | h1
    · exact seal_range c (h c (by simp)).1 (h c (by simp)).2 x h1
    · exact ih (fun d hd => h d (by simp [hd])) x h1
def tornW (cut : Nat) : Nat → List (List Int) → Nat
  | _, [] => 0
  | at_, c :: l => if at_ + (sealL c).length ≤ cut then tornW cut (at_ + (sealL c).length) l + 1 else 0
theorem open_torn (p c : List Int) (r : Nat) (hc : c.length ≤ 60) (hr : r < (sealL c).length) : ¬ (openL (p ++ (sealL c).take r) (p.length : Int) 60).2.2 = 0 := by
  have hsl := seal_len c hc
  have he : sealL c = [(c.length : Int)] ++ (c ++ four4 (crcE 0 (enc7 10 (c.length : Int) ++ c))) := by
    conv => lhs; unfold sealL
    rw [List.append_assoc]
    conv => lhs; lhs; rw [enc_one _ hc]
  cases r with
  | zero =>
    intro h
    rw [List.take_zero, List.append_nil] at h
    obtain ⟨_, nx, _, h1, h2⟩ := openL_next h
    omega
  | succ r =>
    obtain ⟨t, ht⟩ : ∃ t, t = (c ++ four4 (crcE 0 (enc7 10 (c.length : Int) ++ c))).take r := ⟨_, rfl⟩
    have e1 : p ++ (sealL c).take (r + 1) = p ++ (enc7 10 (c.length : Int) ++ t) := by
      rw [enc_one _ hc, ht, he]; rfl
    have hlen : (p ++ (enc7 10 (c.length : Int) ++ t)).length < p.length + c.length + 5 := by
      rw [← e1, List.length_append, List.length_take]; omega
    have hg := get7_enc p t (c.length : Int) (by omega) (by omega)
    have h1 : (enc7 10 (c.length : Int)).length = 1 := by rw [enc_one _ hc]; rfl
    rw [e1]
    unfold openL
    rw [hg, h1]
    simp only [if_true, if_neg (show ¬ (c.length : Int) > 60 by omega), Int.toNat_natCast]
    rw [openB_out (by omega)]
    decide
theorem all_torn : ∀ (l : List (List Int)) (p : List Int) (cut n : Nat), small l → p.length ≤ cut → cut ≤ (p ++ sealsL l).length → cut < p.length + n →
    allR ((p ++ sealsL l).take cut) 60 n (p.length : Int) = (l.take (tornW cut p.length l), ((p.length + (sealsL (l.take (tornW cut p.length l))).length : Nat) : Int)) := by
  intro l
  induction l with
  | nil =>
    intro p cut n _ h1 h2 h3
    obtain ⟨n, rfl⟩ : ∃ m, n = m + 1 := ⟨n - 1, by omega⟩
    have h2' : cut ≤ p.length := by simpa [sealsL] using h2
    have hb : (p ++ sealsL []).take cut = p := by
      rw [show p ++ sealsL [] = p from List.append_nil p, List.take_of_length_le (by omega)]
    have hno : ¬ (openL p (p.length : Int) 60).2.2 = 0 := fun h => by
      obtain ⟨_, nx, _, h4, h5⟩ := openL_next h
      omega
    rw [hb, allR, if_neg hno]
    simp [tornW, sealsL]
  | cons c l ih =>
    intro p cut n hs h1 h2 h3
    obtain ⟨n, rfl⟩ : ∃ m, n = m + 1 := ⟨n - 1, by omega⟩
    have hc := hs c (by simp)
    have hsl := seal_len c hc.1
    have hl : small l := fun d hd => hs d (by simp [hd])
    by_cases hw : p.length + (sealL c).length ≤ cut
    · have ea : p ++ sealsL (c :: l) = (p ++ sealL c) ++ sealsL l := by simp only [sealsL, List.append_assoc]
      have et : ((p ++ sealL c) ++ sealsL l).take cut = (p ++ sealL c) ++ (sealsL l).take (cut - (p ++ sealL c).length) := by
        rw [List.take_append, List.take_of_length_le (by rw [List.length_append]; omega)]
      have hopen : openL (((p ++ sealL c) ++ sealsL l).take cut) (p.length : Int) 60 = (c, ((p.length + (sealL c).length : Nat) : Int), 0) := by
        rw [et]
        have := openL_formM p c (four4 (crcE 0 (enc7 10 (c.length : Int) ++ c))) ((sealsL l).take (cut - (p ++ sealL c).length)) 60 rfl (by omega) (by omega)
        rw [if_pos rfl, show (enc7 10 (c.length : Int)).length = 1 by rw [enc_one _ hc.1]; rfl, show p.length + 1 + c.length + 4 = p.length + (sealL c).length by omega] at this
        rw [← this]
        unfold sealL
        simp only [List.append_assoc]
      have hi := ih (p ++ sealL c) cut n hl (by rw [List.length_append]; omega) (by rw [← ea]; exact h2) (by rw [List.length_append]; omega)
      rw [List.length_append] at hi
      have ew : tornW cut p.length (c :: l) = tornW cut (p.length + (sealL c).length) l + 1 := by rw [tornW, if_pos hw]
      rw [ea, allR, hopen, if_pos rfl, hi, ew, List.take_succ_cons]
      simp only [sealsL, List.length_append, Nat.add_assoc]
    · have ew : tornW cut p.length (c :: l) = 0 := by rw [tornW, if_neg hw]
      have et : (p ++ sealsL (c :: l)).take cut = p ++ (sealL c).take (cut - p.length) := by
        rw [List.take_append, List.take_of_length_le h1]
        simp only [sealsL]
        rw [List.take_append_of_le_length (by omega)]
      rw [et, allR, if_neg (open_torn p c (cut - p.length) hc.1 (by omega)), ew]
      simp [sealsL]
theorem tornW_le (cut : Nat) : ∀ (l : List (List Int)) (a : Nat), tornW cut a l ≤ l.length := by
  intro l
  induction l with
  | nil => intro a; simp [tornW]
  | cons c l ih =>
    intro a
    rw [tornW, List.length_cons]
    split
    · have := ih (a + (sealL c).length); omega
    · omega
theorem tornW_in (cut : Nat) : ∀ (l : List (List Int)) (a i : Nat), i < l.length → (i < tornW cut a l ↔ i ≤ tornW cut a l ∧ a + (sealsL (l.take (i + 1))).length ≤ cut) := by
  intro l
  induction l with
  | nil => intro a i h; simp at h
  | cons c l ih =>
    intro a i hi
    rw [tornW]
    split
    · rename_i hw
      cases i with
      | zero => simp [sealsL]; omega
      | succ i =>
        have := ih (a + (sealL c).length) i (by simpa using hi)
        simp only [List.take_succ_cons, sealsL, List.length_append]
        rw [show a + ((sealL c).length + (sealsL (l.take (i + 1))).length) = a + (sealL c).length + (sealsL (l.take (i + 1))).length by omega]
        omega
    · rename_i hw
      cases i with
      | zero => simp [sealsL]; omega
      | succ i => omega
def endOf (l : List (List Int)) (i : Nat) : Int := ((sealsL (l.take (i + 1))).length : Int)
def endsL (l : List (List Int)) (n : Nat) : List Int := (List.range n).map (endOf l)
theorem endsL_length (l : List (List Int)) (n : Nat) : (endsL l n).length = n := by simp [endsL]
theorem endsL_get (l : List (List Int)) (n i : Nat) (h : i < n) : rd (endsL l n) (i : Int) = endOf l i := by
  rw [rd_nat _ i (by rw [endsL_length]; exact h)]
  simp [endsL]
theorem same_go (l : List (List Int)) (hl : small l) (hn : l.length ≤ 20) (w : Nat) (hw : w ≤ l.length) : ∀ d i : Nat, i + d = w → Ev (fun k => codesearchlaw04_ChecksumTorn.l2 k l (l.take w) (w : Int) (i : Int)) true := by
  intro d
  induction d with
  | zero =>
    intro i hi
    refine Ev.step (f := fun _ => some true) (fun k => ?_) (Ev.now _)
    rw [codesearchlaw04_ChecksumTorn.l2, if_neg (by omega)]
  | succ d ih =>
    intro i hi
    have hi' : i < l.length := by omega
    have hlt : (l.take w).length = w := by rw [List.length_take]; omega
    have hi2 : i < (l.take w).length := by omega
    have hg : (l.take w)[i] = l[i] := List.getElem_take ..
    have hb := rBytes_go l[i] l[i] (by have := (hl l[i] (List.getElem_mem _)).1; omega)
    rw [show decide (l[i] = l[i]) = true from by simp] at hb
    have h2 := ih (i + 1) (by omega)
    have c0 : (i : Int) < (w : Int) := by omega
    have c1 : (i : Int) < ((l.take w).length : Int) := by omega
    have c2 : (i : Int) < (l.length : Int) := by omega
    have e : wrap64 ((i : Int) + 1) = ((i + 1 : Nat) : Int) := by rw [w64 (by omega) (by omega)]; omega
    refine Ev.step (fun k => ?_) (Ev.bind (f := fun k t => if t = true then codesearchlaw04_ChecksumTorn.l2 k l (l.take w) (w : Int) ((i + 1 : Nat) : Int) else some false) hb (Ev.ite_pos rfl h2))
    rw [codesearchlaw04_ChecksumTorn.l2, if_pos c0, if_pos (Int.natCast_nonneg i), if_pos c1, if_pos c2, rdL1_nat _ i hi2, rdL1_nat l i hi', hg, e]
theorem count_go (l : List (List Int)) (hl : small l) (hn : l.length ≤ 20) (cut : Nat) (w : Nat) (ew : w = tornW cut 0 l) :
    ∀ d i : Nat, i + d = w → Ev (fun k => codesearchlaw04_ChecksumTorn.l1 k l (cut : Int) (endsL l l.length) (l.take w) ((sealsL (l.take w)).length : Int) (i : Int) ((sealsL (l.take i)).length : Int)) true := by
  have hw : w ≤ l.length := by rw [ew]; exact tornW_le cut l 0
  have hj3 : Ev (fun k => codesearchlaw04_ChecksumTorn.j3 k l (l.take w) ((sealsL (l.take w)).length : Int) (w : Int) ((sealsL (l.take w)).length : Int)) true := by
    have h2 := same_go l hl hn w hw w 0 (by omega)
    have hlt : ((l.take w).length : Int) = (w : Int) := by rw [List.length_take]; omega
    refine Ev.step (fun k => ?_) (Ev.step (g := fun k => codesearchlaw04_ChecksumTorn.j4 k l (l.take w) (w : Int) false) (fun k => ?_) h2)
    · rw [codesearchlaw04_ChecksumTorn.j3, if_pos hlt, show (((sealsL (l.take w)).length : Int) != ((sealsL (l.take w)).length : Int)) = false from by simp]
    · rw [codesearchlaw04_ChecksumTorn.j4, if_neg (by decide)]
      rfl
  have hel := endsL_length l l.length
  intro d
  induction d with
  | zero =>
    intro i hi
    obtain rfl : i = w := by omega
    refine Ev.step (fun k => ?_) hj3
    rw [codesearchlaw04_ChecksumTorn.l1, hel]
    by_cases hlen : (i : Int) < (l.length : Int)
    · have hin := tornW_in cut l 0 i (by omega)
      have hgt : ¬ endOf l i ≤ (cut : Int) := by unfold endOf; omega
      rw [if_pos hlen, if_pos (Int.natCast_nonneg i), endsL_get l l.length i (by omega), if_neg hgt]
    · rw [if_neg hlen]
  | succ d ih =>
    intro i hi
    have h2 := ih (i + 1) (by omega)
    have hin := tornW_in cut l 0 i (by omega)
    have hle : endOf l i ≤ (cut : Int) := by unfold endOf; omega
    have c0 : (i : Int) < (l.length : Int) := by omega
    have e : wrap64 ((i : Int) + 1) = ((i + 1 : Nat) : Int) := by rw [w64 (by omega) (by omega)]; omega
    refine Ev.step (fun k => ?_) h2
    rw [codesearchlaw04_ChecksumTorn.l1, hel, if_pos c0, if_pos (Int.natCast_nonneg i), endsL_get l l.length i (by omega), if_pos hle, e]
    rfl
theorem fill_go (l : List (List Int)) (hu : ∀ c ∈ l, ∀ x ∈ c, 0 ≤ x ∧ x < 256) (hn : l.length ≤ 20) (cut : Int) (hcut : -9223372036854775808 ≤ cut ∧ cut ≤ 9223372036854775807) :
    ∀ d i : Nat, i + d = l.length → small (l.take i) → Ev (fun k => codesearchlaw04_ChecksumTorn.l0 k l cut (sealsL (l.take i)) (endsL l i) (i : Int)) true := by
  intro d
  induction d with
  | zero =>
    intro i hi hs
    obtain rfl : i = l.length := by omega
    rw [List.take_length] at hs ⊢
    have hlen := seals_len l hs
    have hr := seals_range l hs
    have quit : Ev (fun k => codesearchlaw04_ChecksumTorn.j1 k l cut (sealsL l) (endsL l l.length) true) true := by
      refine Ev.step (f := fun _ => some true) (fun k => ?_) (Ev.now _)
      rw [codesearchlaw04_ChecksumTorn.j1, if_pos rfl]
    by_cases c1 : cut < 0
    · refine Ev.step (fun k => ?_) quit
      rw [codesearchlaw04_ChecksumTorn.l0, if_neg (by omega), if_pos c1]
    by_cases c2 : cut > ((sealsL l).length : Int)
    · refine Ev.step (fun k => ?_) quit
      rw [codesearchlaw04_ChecksumTorn.l0, if_neg (by omega), if_neg c1, decide_eq_true c2]
    obtain ⟨n, rfl⟩ := Int.eq_ofNat_of_zero_le (show 0 ≤ cut by omega)
    have hn2 : n ≤ (sealsL l).length := by omega
    have htl : ((sealsL l).take n).length = n := by rw [List.length_take]; omega
    have hall : allL ((sealsL l).take n) 60 = (l.take (tornW n 0 l), ((sealsL (l.take (tornW n 0 l))).length : Int)) := by
      have h := all_torn l [] n (n + 1) hs (by simp) (by simpa using hn2) (by simp)
      simp only [List.nil_append, List.length_nil, Nat.zero_add] at h
      unfold allL
      rw [htl]
      exact h
    have hgo := All_go ((sealsL l).take n) 60 (by omega) (fun x hx => hr x (List.mem_of_mem_take hx))
    rw [hall] at hgo
    have hc := count_go l hs hn n (tornW n 0 l) rfl (tornW n 0 l) 0 (by omega)
    have c3 : (n : Int) ≤ ((sealsL l).length : Int) := by omega
    refine Ev.step (fun k => ?_) (Ev.step (g := fun k => codesearchlaw04_ChecksumTorn.j1 k l (n : Int) (sealsL l) (endsL l l.length) false) (fun k => ?_) (Ev.bind (f := fun k bt => codesearchlaw04_ChecksumTorn.l1 k l (n : Int) (endsL l l.length) bt.1 bt.2 0 0) hgo hc))
    · rw [codesearchlaw04_ChecksumTorn.l0, if_neg (by omega), if_neg c1, decide_eq_false c2]
    · rw [codesearchlaw04_ChecksumTorn.j1, if_neg (by decide), if_pos (Int.natCast_nonneg n), if_pos c3, Int.toNat_natCast]
  | succ d ih =>
    intro i hi hs
    have hi' : i < l.length := by omega
    have c0 : (i : Int) < (l.length : Int) := by omega
    have hc := hu l[i] (List.getElem_mem _)
    by_cases c1 : (l[i].length : Int) > 60
    · refine Ev.step (f := fun _ => some true) (fun k => ?_) (Ev.now _)
      rw [codesearchlaw04_ChecksumTorn.l0, if_pos c0, if_pos (Int.natCast_nonneg i), rdL1_nat l i hi', if_pos c1]
    · have et := take_snoc l i hi'
      have hs2 : small (l.take (i + 1)) := by
        intro c hcm
        rw [← et] at hcm
        rcases List.mem_append.1 hcm with h | h
        · exact hs c h
        · obtain rfl := List.mem_singleton.1 h
          exact ⟨by omega, hc⟩
      have h2 := ih (i + 1) (by omega) hs2
      have hl1 := seals_len (l.take i) hs
      have hl2 := seal_len l[i] (by omega)
      have htk : (l.take i).length ≤ 20 := by rw [List.length_take]; omega
      have m1 : (sealsL (l.take i)).length + (sealL l[i]).length < 140737488355328 := by omega
      have m2 : (endsL l i).length < 17592186044416 := by rw [endsL_length]; omega
      have e1 : sealsL (l.take i) ++ sealL l[i] = sealsL (l.take (i + 1)) := by
        rw [← et, sealsL_append]; simp [sealsL]
      have e2 : endsL l i ++ [((sealsL (l.take (i + 1))).length : Int)] = endsL l (i + 1) := by
        simp only [endsL, List.range_succ, List.map_append, List.map_cons, List.map_nil, endOf]
      have hsg := Seal_go l[i] (by omega) hc
      have e : wrap64 ((i : Int) + 1) = ((i + 1 : Nat) : Int) := by rw [w64 (by omega) (by omega)]; omega
      refine Ev.step (fun k => ?_) h2
      rw [codesearchlaw04_ChecksumTorn.l0, if_pos c0, if_pos (Int.natCast_nonneg i), rdL1_nat l i hi', if_neg c1, hsg, Option.bind_some, if_pos m1, Option.bind_some, if_pos m2, e1, e2, e]
theorem ChecksumTorn : StChecksumTorn.Pure := by
  intro U l cut ⟨_, _, _, hw⟩ hcut
  have hu : ∀ c ∈ l, ∀ x ∈ c, 0 ≤ x ∧ x < 256 := fun c hc x hx => wf_u8.1 ((hw c hc).2.2.2 x hx)
  refine Ev.rounds (r := true) ?_
  refine Ev.congr (fun k => by rw [codesearchlaw04_ChecksumTorn.f]) (Ev.bind alive04 (Ev.ite_pos rfl ?_))
  by_cases hbig : (l.length : Int) > 20
  · exact Ev.ite_pos hbig (Ev.now true)
  · refine Ev.ite_neg hbig ?_
    have h := fill_go l hu (by omega) cut (wf_i64.1 hcut) l.length 0 (by omega) (fun c hc => by simp at hc)
    rw [List.take_zero] at h
    exact h

end Go.Proofs.Ytihfpmociffpeab.Pure
