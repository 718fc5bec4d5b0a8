import Derived.Test.YtmgliocboeifdaaDoorKx0
import Derived.Test.YtmgliocboeifdaaDoorKx4
namespace Go.Proofs.YtmgliocboeifdaaDoor.K
open Go.RowKit Go.Proofs.YtmgliocboeifdaaDoorW.PrintWords Go.Proofs.YtmgliocboeifdaaDoorW.PrintLast Go.Proofs.YtmgliocboeifdaaDoorW.PrintMore
set_option maxHeartbeats 4000000
set_option maxRecDepth 100000
attribute [local go_sem] max2_int min2_int max_two min_two max_three min_three max_four min_four
set_option linter.unusedVariables false
set_option linter.unusedSimpArgs false

/-! ### checksum_Sum: function 43 -/
def checksum_Sum.f (l0 : List Int) : Option (Int) := (checksum_Extend.f 0 l0).bind fun t237 => (some t237)
theorem checksum_Sum.calls (A0 : Option Addr) (c0 : Nat) (l0 : List Int) (r : Int) (w : World) (ad : Kd.C (Kd.int .u8) w A0 l0.length l0) (ae : l0.length ≤ c0) (h : checksum_Sum.f l0 = some r) :
  Calls Tryd.prog 43 #[.slice A0 l0.length c0] w fun e w' => e = .returned (.int .u32 r) ∧ Below w.heap.size w w' := by
 have ag := aK ad
 have ah := aK ae
 clear ad ae
 have HB := aK (Below.refl w.heap.size w)
 have H : ((checksum_Extend.f 0 l0).bind fun aa => (some aa)) = some r := h
 clear h
 replace H := Option.bind_eq_some_iff.mp H
 obtain ⟨aa,af,H⟩ := H
 have A2 := aK af
 clear af
 obtain rfl := Option.some.inj H
 go_enter Tryd.func43,Tryd.ntmps43
 go_wp2_with (first|((with_reducible refine gate_callee (f := 51) rfl ?_);refine gL 4 Tryd.func51 #[.int .u32 0,.slice A0 l0.length c0] ?_;(with_reducible refine (checksum_Extend.calls 0 _ _ l0 aa _ ?ab ?ac A2.out).mono ?_);(case ab => exact cM ag.out);(case ac => exact ah.out);rintro e w3 ⟨rfl,hb⟩;refine ⟨_,rfl,?_⟩;replace HB := aK (below_step (bM HB.out) hb);(try clear hb)))
 go_ret
 exact ⟨by first|rfl|(simp [errW_none,errW_some] <;> rfl)|(simp [*,errW_none,errW_some] <;> rfl),bM HB.out⟩

/-! ### checksum_Seal: function 27 -/
def checksum_Seal.f (l0 : List Int) : Option (List Int) := (varint_Put.f ([] : List Int) (l0.length : Int)).bind fun t238 => (if t238.length + l0.length < 140737488355328 then ((some (t238 ++ l0 : List Int)).bind fun y241 => ((checksum_Sum.f y241).bind fun t244 => ((some (([(t244 / 16777216) % 256, (t244 / 65536) % 256, (t244 / 256) % 256, (t244) % 256] : List Int) : List Int)).bind fun y245 => (if y241.length + y245.length < 140737488355328 then (some (y241 ++ y245)) else (none))))) else (none))
theorem checksum_Seal.calls (A0 : Option Addr) (c0 : Nat) (l0 : List Int) (r : List Int) (w : World) (aC : Kd.C (Kd.int .u8) w A0 l0.length l0) (aD : l0.length ≤ c0) (h : checksum_Seal.f l0 = some r) :
  Calls Tryd.prog 27 #[.slice A0 l0.length c0] w fun e w' => ∃ aE : Value,e = .returned (aE) ∧ Kd.R (Kd.int .u8) 5 w' w.heap.size (fun _ => True) aE r ∧ Below w.heap.size w w' := by
 have aN := aK aC
 have aV := aK aD
 clear aC aD
 have HB := aK (Below.refl w.heap.size w)
 unfold checksum_Seal.f at h
 have H := h
 clear h
 replace H := Option.bind_eq_some_iff.mp H
 obtain ⟨am,aG,H⟩ := H
 have A2 := aK aG
 clear aG
 by_cases c3 : am.length + l0.length < 140737488355328
 ·rw [if_pos c3] at H
  have au := aK c3
  clear c3
  obtain ⟨ac,ad⟩ : ∃ y_ : List Int,y_ = (am ++ l0) := ⟨_,rfl⟩
  replace H : ((checksum_Sum.f ac).bind fun aa => ((some (([(aa / 16777216) % 256,(aa / 65536) % 256,(aa / 256) % 256,(aa) % 256] : List Int) : List Int)).bind fun ae => (if ac.length + ae.length < 140737488355328 then (some (ac ++ ae)) else (none)))) = some r := by first|(rw [ad];with_reducible exact H)|(have ai := (Option.bind_some _ _).symm.trans H;rw [ad];with_reducible exact ai)|(have ai := (Option.bind_some _ _).symm.trans H;with_reducible exact ai)|with_reducible exact H|(rw [ad];exact H)|exact H
  have ao := aK ad
  clear ad
  replace H := Option.bind_eq_some_iff.mp H
  obtain ⟨aa,aH,H⟩ := H
  have A4 := aK aH
  clear aH
  obtain ⟨ae,af⟩ : ∃ y_ : List Int,y_ = (([(aa / 16777216) % 256,(aa / 65536) % 256,(aa / 256) % 256,(aa) % 256] : List Int)) := ⟨_,rfl⟩
  replace H : (if ac.length + ae.length < 140737488355328 then (some (ac ++ ae)) else (none)) = some r := by first|(rw [af];with_reducible exact H)|(have ai := (Option.bind_some _ _).symm.trans H;rw [af];with_reducible exact ai)|(have ai := (Option.bind_some _ _).symm.trans H;with_reducible exact ai)|with_reducible exact H|(rw [af];exact H)|exact H
  have an := aK af
  clear af
  obtain ⟨c5,H⟩ := iS H
  have av := aK c5
  clear c5
  obtain ⟨aw,ag⟩ : ∃ y_ : List Int,y_ = (ac ++ ae) := ⟨_,rfl⟩
  replace H : (some aw) = some r := by first|(rw [ag];with_reducible exact H)|(have ai := (Option.bind_some _ _).symm.trans H;rw [ag];with_reducible exact ai)|(have ai := (Option.bind_some _ _).symm.trans H;with_reducible exact ai)|with_reducible exact H|(rw [ag];exact H)|exact H
  have ap := aK ag
  clear ag
  obtain rfl := Option.some.inj H
  go_enter Tryd.func27,Tryd.ntmps27
  go_wp2_with (first|(go_at_call 38;refine calls_of_args (args' := #[.slice none ([] : List Int).length 0,.int .i64 (l0.length : Int)]) (by first|with_reducible rfl|(simp only [List.length_nil];done)|(simp only [List.length_nil];with_reducible rfl)) ?_;(with_reducible refine (varint_Put.calls _ _ ([] : List Int) (l0.length : Int) am _ ?aj ?ak A2.out).mono ?_);(case aj => exact Kd.C_nil _ _);(case ak => exact Nat.le_refl _);rintro e w6 ⟨ax,rfl,aI,hb⟩;have aq := aK (Kd.R_lower aI (below_size (bM HB.out)));replace HB := aK (below_step (bM HB.out) hb);(try clear hb);(try clear hk);(try clear aI))|((with_reducible refine gate_builtin (b := .append) (xs := #[.tmp 7,.tmp 8]) rfl ?_);at_builtin;refine Kd.R_append_rows (Kd.int .u8) (w0 := w) w.heap.size rfl (.tmp 7) (.tmp 8) 29 5 (.int .u8 0) 1 rfl Tryd.underlying29 info5 rfl (by decide) (by omega) ax am l0 _ _ _ (fun _ => True) (fun _ => False) rfl rfl ?aO ?aR (fun _ _ h => h) (fun _ h => h.elim) ?aF ?aB ?aS ?aL ?_;(case aR => exact cM (Kd.C_below aN.out HB.out));(case aB => exact (bM HB.out));(case aF => exact (fun _ _ => trivial));(case aO => exact (rM aq.out));(case aS => exact (below_size (bM HB.out)));(case aL => have := au.out;omega);intro aP w7 ho hb hg hat;rw [← ao.out] at ho;replace HB := aK (hb);have ab := aK (ho);clear ho hb hg hat;obtain ⟨aJ,aM,aQ⟩ := Kd.R_slice ab.out;subst aQ)|((with_reducible refine gate_callee (f := 43) rfl ?_);refine gL 11 Tryd.func43 #[.slice aJ ac.length aM] ?_;(with_reducible refine (checksum_Sum.calls _ _ ac aa _ ?aj ?ak A4.out).mono ?_);(case aj => exact cM (Kd.R_reads' ab.out).2.2);(case ak => exact (Kd.R_reads' ab.out).2.1);rintro e w9 ⟨rfl,hb⟩;refine ⟨_,rfl,?_⟩;replace ab := aK (Kd.R_below (rM ab.out) hb);replace HB := aK (below_step (bM HB.out) hb);(try clear hb);(try clear hk))|((with_reducible refine gate_dst (N := 24) rfl ?_);refine Kd.R_lit (Kd.int .u8) _ 5 ?hg (N := 24) ?hd (xs := ([(aa / 16777216) % 256,(aa / 65536) % 256,(aa / 256) % 256,(aa) % 256] : List Int)) (inner := [.int .u8 ((aa / 16777216) % 256),.int .u8 ((aa / 65536) % 256),.int .u8 ((aa / 256) % 256),.int .u8 ((aa) % 256)]) (ok := fun _ => True) (okp := fun _ => True) ?hr ?hp (fun _ hk => hk) trivial (Below.refl _ _) (Nat.le_refl _) (by simp) ?_;(case hd => rfl);(case hg => rfl);(case hr => first|(go_simp;done)|(go_simp;rfl));(case hp => exact (Reps.one (show Kd.M (Kd.int .u8) _ _ _ ((aa / 16777216) % 256) [.int .u8 ((aa / 16777216) % 256)] from rfl) (Reps.one (show Kd.M (Kd.int .u8) _ _ _ ((aa / 65536) % 256) [.int .u8 ((aa / 65536) % 256)] from rfl) (Reps.one (show Kd.M (Kd.int .u8) _ _ _ ((aa / 256) % 256) [.int .u8 ((aa / 256) % 256)] from rfl) (Reps.one (show Kd.M (Kd.int .u8) _ _ _ ((aa) % 256) [.int .u8 ((aa) % 256)] from rfl) (Reps.none _ _))))));intro aT aW ah hb hg_ hnew_;clear hg_ hnew_;(first|rw [← an.out] at ah|(simp only [Int.reduceToNat] at ah;rw [← an.out] at ah));have al := aK (Kd.R_lower (Kd.R_new' ah (Kd.R_lt (rM ab.out))) (below_size (bM HB.out)));replace ab := aK (Kd.R_elder' (rM ab.out) (Kd.R_base ah) hb);replace HB := aK (below_step (bM HB.out) hb);clear hb ah;obtain ⟨ay,az,aA⟩ := Kd.R_slice al.out;subst aA)|((with_reducible refine gate_builtin (b := .append) (xs := #[.tmp 12,.tmp 24]) rfl ?_);at_builtin;refine Kd.R_append_rows (Kd.int .u8) (w0 := w) w.heap.size rfl (.tmp 12) (.tmp 24) 29 5 (.int .u8 0) 1 rfl Tryd.underlying29 info5 rfl (by decide) (by omega) (.slice aJ ac.length aM) ac ae _ _ _ (fun k_ => some k_ ≠ (.slice ay ae.length az : Value).ownBlock) (fun _ => False) rfl rfl ?aO ?aR (fun _ _ h => h) (fun _ h => h.elim) ?aF ?aB ?aS ?aL ?_;(case aR => exact cM (Kd.R_reads' al.out).2.2);(case aB => exact (bM HB.out));(case aF => exact (fun k_ hk => Kd.fresh' (Kd.R_lt (rM al.out)) k_ hk));(case aO => exact (by (with_reducible repeat (first|apply Kd.R_alloc|apply Kd.R_drewN|apply Kd.R_drew));exact Kd.R_mono ab.out (fun _ hk => hk.2)));(case aS => exact (below_size (bM HB.out)));(case aL => have := av.out;omega);intro aU aX ho hb hg hat;rw [← ap.out] at ho;replace HB := aK (hb);have ar := aK (ho);clear ho hb hg hat))
  go_ret
  exact ⟨_,by first|rfl|(simp [errW_none,errW_some] <;> rfl)|(simp [*,errW_none,errW_some] <;> rfl),rM (Kd.R_mono ar.out (fun _ hk => trivial)),bM HB.out⟩
 ·rw [if_neg c3] at H
  exact absurd H (by simp)

/-! ### manifest_Write: function 15 -/
def manifest_Write.l0 : Nat → List Int → List (S37) → Int → Int → Option (List Int)
|0,_,_,_,_ => none
|k + 1,x3,x6,x7,x8 => if x8 < x7 then (if 0 ≤ x8 then (if x8 < (x6.length : Int) then ((manifest_Encode.f k ((rd_T37 x6 x8).f0) ((rd_T37 x6 x8).f1) ((rd_T37 x6 x8).f2) ((rd_T37 x6 x8).f3) ((rd_T37 x6 x8).f4) ((rd_T37 x6 x8).f5)).bind fun t253 => ((checksum_Seal.f t253).bind fun t256 => (if x3.length + t256.length < 140737488355328 then (manifest_Write.l0 k (x3 ++ t256) x6 x7 (wrap64 (x8 + 1))) else (none)))) else (none)) else (none)) else (some x3)
def manifest_Write.f (k : Nat) (l0 : List (S37)) : Option (List Int) := manifest_Write.l0 k ([] : List Int) l0 (l0.length : Int) 0
theorem manifest_Write.mono_l : ∀ k, (∀ y0 y1 y2 y3, LeO (manifest_Write.l0 k y0 y1 y2 y3) (manifest_Write.l0 (k + 1) y0 y1 y2 y3))
|0 => fun _ _ _ _ r h => by simp [manifest_Write.l0] at h
|k + 1 => by
  have ih0 := manifest_Write.mono_l k
  ·intro y0 y1 y2 y3
   unfold manifest_Write.l0
   repeat' (with_reducible first|exact ih0 _ _ _ _|exact manifest_Encode.mono _ _ _ _ _ _ _|exact LeO.refl _|exact LeO.none _|refine LeO.ite ?_ ?_|refine LeO.bind ?_ (fun _ => ?_))
theorem manifest_Write.mono : ∀ a0 k, LeO (manifest_Write.f k a0) (manifest_Write.f (k + 1) a0) := by
 intro a0 k
 have ih0 := manifest_Write.mono_l k
 unfold manifest_Write.f
 repeat' first
  |(with_reducible exact ih0 _ _ _ _)
  |(with_reducible exact manifest_Encode.mono _ _ _ _ _ _ _)
  |(with_reducible exact LeO.refl _)
  |(with_reducible exact LeO.none _)
  |(with_reducible refine LeO.ite ?_ ?_)
  |(with_reducible refine LeO.bind ?_ (fun _ => ?_))
  |exact ih0 _ _ _ _
  |exact manifest_Encode.mono _ _ _ _ _ _ _
  |exact LeO.none _
  |refine LeO.ite ?_ ?_
  |refine LeO.bind ?_ (fun _ => ?_)
theorem manifest_Write.calls (k : Nat) (A0 : Option Addr) (c0 : Nat) (l0 : List (S37)) (r : List Int) (w : World) (bf : Kd.C k37 w A0 l0.length l0) (bg : l0.length ≤ c0) (h : manifest_Write.f k l0 = some r) :
  Calls Tryd.prog 15 #[.slice A0 l0.length c0] w fun e w' => ∃ bh : Value,e = .returned (bh) ∧ Kd.R (Kd.int .u8) 5 w' w.heap.size (fun _ => True) bh r ∧ Below w.heap.size w w' := by
 have bp := Tryd.underlying37
 have bq := aK bf
 have bz := aK bg
 clear bf bg
 have HB := aK (Below.refl w.heap.size w)
 have H : (manifest_Write.l0 k ([] : List Int) l0 (l0.length : Int) 0) = some r := h
 clear h
 have H' := aK H
 clear H
 go_enter Tryd.func15,Tryd.ntmps15
 go_wp2
 go_loopg [3,8] k (fun kq v3 v8 w' => ∃ (az : List Int) (aa : Int),v8 = .int .i64 aa ∧ Aside0 (manifest_Write.l0 kq az l0 (l0.length : Int) aa = some r) ∧ Aside0 (kq ≤ k) ∧ Aside0 (Kd.R (Kd.int .u8) 5 w' w.heap.size (fun _ => True) v3 az) ∧ Aside0 (Below w.heap.size w w'))
 case atStart => exact ⟨(([] : List Int)),(0),(by first|rfl|(simp;done)|(simp [*];done)),H',⟨Nat.le_refl _⟩,⟨by first|exact Kd.R_nil _ _ _ _ _|exact Kd.N_nil _ _ _ _ _|exact Kd.V_nil _ _ _ _ _|exact Kd.Q_nil _ _ _ _ _|exact Kd.S_nil _ _ _ _ _⟩,⟨bM HB.out⟩⟩
 case round =>
  clear H'
  obtain ⟨az,aa,rfl,HA,bi,ad,HB⟩ := hrel
  cases gk with
 |zero => exact absurd HA.out (by simp [manifest_Write.l0])
 |succ k1 =>
   have H := HA.out
   clear HA
   simp only [manifest_Write.l0] at H
   by_cases c2 : aa < (l0.length : Int)
   ·rw [if_pos c2] at H
    have a7 := decide_eq_true c2
    clear c2
    obtain ⟨c3,H⟩ := iS H
    have br := decide_eq_true c3
    clear c3
    obtain ⟨c4,H⟩ := iS H
    have bs := decide_eq_true c4
    clear c4
    replace H := Option.bind_eq_some_iff.mp H
    obtain ⟨aG,bj,H⟩ := H
    have A5 := aK bj
    clear bj
    replace H := Option.bind_eq_some_iff.mp H
    obtain ⟨aH,bk,H⟩ := H
    have A6 := aK bk
    clear bk
    obtain ⟨c7,H⟩ := iS H
    have a8 := aK c7
    clear c7
    obtain ⟨aW,ae⟩ : ∃ y_ : List Int,y_ = (az ++ aH) := ⟨_,rfl⟩
    replace H : (manifest_Write.l0 k1 aW l0 (l0.length : Int) (wrap64 (aa + 1))) = some r := by first|(rw [ae];with_reducible exact H)|(have a9 := (Option.bind_some _ _).symm.trans H;rw [ae];with_reducible exact a9)|(have a9 := (Option.bind_some _ _).symm.trans H;with_reducible exact a9)|with_reducible exact H|(rw [ae];exact H)|exact H
    have aX := aK ae
    clear ae
    have H' := aK H
    clear H
    have aU : 0 ≤ (aa : Int) := dA
    have aV : aa < (l0.length : Int) := dA
    obtain ⟨bm,af,ag,ah,ai,aj,ak,ba,al,am,an,ao,ap,aq,ar,au,av,aw,ax,ay⟩ := at_T37 bq.out aa aU aV
    cases ba
    replace al := xM HB al
    replace am := xM HB am
    replace an := xM HB an
    replace ao := xM HB ao
    replace ap := xM HB ap
    replace aq := xM HB aq
    have aI := aK au
    have aJ := aK ar
    clear au ar
    have aM := aK aw
    have aN := aK av
    clear aw av
    have aP := aK ay
    have aQ := aK ax
    clear ay ax
    replace aU := eq_true aU
    replace aV := eq_true aV
    go_wp2_with (first|((with_reducible refine gate_dst (N := 5) rfl ?_);refine box_event ?hg (N := 5) ?hd (cs := #[.int .i64 0,.int .i64 0,.int .i64 0,.slice none 0 0,.slice none 0 0,.slice none 0 0]) (t := 37) ?hr ?_;(case hd => rfl);(case hg => rfl);(case hr => first|(go_simp;done)|(go_simp;rfl));intro ab hg w8 hbox hb;replace ad := aK (Kd.R_below (rM ad.out) hb);have aA := aK (hbox);have aY := aK ((by rw [hg];exact (below_size (bM HB.out)) : w.heap.size ≤ ab));have bn := Ge.mk aY.out;have aZ := aK ((by rw [hg];exact (below_size (bM HB.out)) : w.heap.size ≤ ab));have bo := Ge.mk aZ.out;replace HB := aK (below_step (bM HB.out) hb);clear hb hbox hg;obtain ⟨_,_,_,_,_,_,_,_,_,_,_,_⟩ := bk6_ aA.out)|((with_reducible refine gate_callee (f := 19) rfl ?_);refine gL 14 Tryd.func19 #[.agg #[.int .i64 ((rd_T37 l0 aa).f0),.int .i64 ((rd_T37 l0 aa).f1),.int .i64 ((rd_T37 l0 aa).f2),.slice af ((rd_T37 l0 aa).f3).length ag,.slice ah ((rd_T37 l0 aa).f4).length ai,.slice aj ((rd_T37 l0 aa).f5).length ak]] ?_;(with_reducible refine (manifest_Encode.calls k1 ((rd_T37 l0 aa).f0) ((rd_T37 l0 aa).f1) ((rd_T37 l0 aa).f2) _ _ ((rd_T37 l0 aa).f3) _ _ ((rd_T37 l0 aa).f4) _ _ ((rd_T37 l0 aa).f5) aG _ ?aC ?aD ?a0 ?a1 ?a2 ?a3 A5.out).mono ?_);(case aC => exact Kd.C_below aI.out (bG HB.out));(case aD => exact aJ.out);(case a0 => exact Kd.C_below aM.out (bG HB.out));(case a1 => exact aN.out);(case a2 => exact Kd.C_below aP.out (bG HB.out));(case a3 => exact aQ.out);rintro e bB ⟨bu,rfl,aT,hb⟩;refine ⟨_,rfl,?_⟩;have ac := aK (Kd.R_lower (Kd.R_new' aT (Kd.R_lt (by (with_reducible repeat (first|apply Kd.R_alloc|apply Kd.R_drewN|apply Kd.R_drew));exact (Kd.R_mono (Kd.R_far (p := ⟨ab,5,none⟩) (Kd.R_far (p := ⟨ab,4,none⟩) (Kd.R_far (p := ⟨ab,3,none⟩) (Kd.R_far (p := ⟨ab,2,none⟩) (Kd.R_far (p := ⟨ab,1,none⟩) (Kd.R_far (p := ⟨ab,0,none⟩) (Kd.R_types ad.out aA.out (by decide)) (fun _ hk => hk.2) (.int .i64 ((rd_T37 l0 aa).f0))) (fun _ hk => hk.2) (.int .i64 ((rd_T37 l0 aa).f1))) (fun _ hk => hk.2) (.int .i64 ((rd_T37 l0 aa).f2))) (fun _ hk => hk.2) (.slice af ((rd_T37 l0 aa).f3).length ag)) (fun _ hk => hk.2) (.slice ah ((rd_T37 l0 aa).f4).length ai)) (fun _ hk => hk.2) (.slice aj ((rd_T37 l0 aa).f5).length ak)) (fun _ h_ => h_.1))))) (below_size (bG HB.out)));replace ad := aK (Kd.R_elder' (by (with_reducible repeat (first|apply Kd.R_alloc|apply Kd.R_drewN|apply Kd.R_drew));exact (Kd.R_mono (Kd.R_far (p := ⟨ab,5,none⟩) (Kd.R_far (p := ⟨ab,4,none⟩) (Kd.R_far (p := ⟨ab,3,none⟩) (Kd.R_far (p := ⟨ab,2,none⟩) (Kd.R_far (p := ⟨ab,1,none⟩) (Kd.R_far (p := ⟨ab,0,none⟩) (Kd.R_types ad.out aA.out (by decide)) (fun _ hk => hk.2) (.int .i64 ((rd_T37 l0 aa).f0))) (fun _ hk => hk.2) (.int .i64 ((rd_T37 l0 aa).f1))) (fun _ hk => hk.2) (.int .i64 ((rd_T37 l0 aa).f2))) (fun _ hk => hk.2) (.slice af ((rd_T37 l0 aa).f3).length ag)) (fun _ hk => hk.2) (.slice ah ((rd_T37 l0 aa).f4).length ai)) (fun _ hk => hk.2) (.slice aj ((rd_T37 l0 aa).f5).length ak)) (fun _ h_ => h_.1))) (Kd.R_base aT) hb);replace HB := aK (below_step (bG HB.out) hb);(try clear hb);(try clear hk);(try clear aT);obtain ⟨a4,a5,bb⟩ := Kd.R_slice ac.out;subst bb)|((with_reducible refine gate_callee (f := 27) rfl ?_);refine gL 15 Tryd.func27 #[.slice a4 aG.length a5] ?_;(with_reducible refine (checksum_Seal.calls _ _ aG aH _ ?aC ?aD A6.out).mono ?_);(case aC => exact cM (Kd.R_reads' ac.out).2.2);(case aD => exact (Kd.R_reads' ac.out).2.1);rintro e bC ⟨bv,rfl,aT,hb⟩;refine ⟨_,rfl,?_⟩;have aE := aK (Kd.R_lower (Kd.R_new' (Kd.R_new' aT (Kd.R_lt (rM ad.out))) (Kd.R_lt (rM ac.out))) (below_size (bG HB.out)));replace ad := aK (Kd.R_elder' (rM ad.out) (Kd.R_base aT) hb);replace ac := aK (Kd.R_elder' (rM ac.out) (Kd.R_base aT) hb);replace HB := aK (below_step (bG HB.out) hb);(try clear hb);(try clear hk);(try clear aT);obtain ⟨bc,bd,be⟩ := Kd.R_slice aE.out;subst be)|((with_reducible refine gate_builtin (b := .append) (xs := #[.tmp 12,.tmp 15]) rfl ?_);at_builtin;refine Kd.R_append_rows (Kd.int .u8) (w0 := w) w.heap.size rfl (.tmp 12) (.tmp 15) 29 5 (.int .u8 0) 1 rfl Tryd.underlying29 info5 rfl (by decide) (by omega) u3 az aH _ _ _ (fun k_ => some k_ ≠ (.slice a4 aG.length a5 : Value).ownBlock ∧ some k_ ≠ (.slice bc aH.length bd : Value).ownBlock) (fun _ => False) rfl rfl ?aO ?aR (fun _ _ h => h) (fun _ h => h.elim) ?aF ?aB ?aS ?aL ?_;(case aR => exact cM (Kd.R_reads' aE.out).2.2);(case aB => exact (bG HB.out));(case aF => exact (fun k_ hk => ⟨Kd.fresh' (Kd.R_lt (rM ac.out)) k_ hk,Kd.fresh' (Kd.R_lt (rM aE.out)) k_ hk⟩));(case aO => exact (by (with_reducible repeat (first|apply Kd.R_alloc|apply Kd.R_drewN|apply Kd.R_drew));exact Kd.R_mono ad.out (fun _ hk => ⟨hk.1.2,hk.2⟩)));(case aS => exact (below_size (bG HB.out)));(case aL => have := a8.out;omega);intro bx bD ho hb hg hat;rw [← aX.out] at ho;replace HB := aK (hb);have a6 := aK (ho);clear ho hb hg hat))
    go_roundg k1
    case measure => have := bi.out;omega
    case rel => exact ⟨(aW),(wrap64 (aa + 1)),(by first|rfl|(simp;done)|(simp [*];done)),H',⟨by have := bi.out;omega⟩,⟨rM (Kd.R_mono a6.out (fun _ hk => trivial))⟩,⟨bG HB.out⟩⟩
   ·rw [if_neg c2] at H
    have a7 := decide_eq_false c2
    clear c2
    obtain rfl := Option.some.inj H
    go_wp2
    go_ret
    exact ⟨_,by first|rfl|(simp [errW_none,errW_some] <;> rfl)|(simp [*,errW_none,errW_some] <;> rfl),rM ad.out,bM HB.out⟩
end Go.Proofs.YtmgliocboeifdaaDoor.K
