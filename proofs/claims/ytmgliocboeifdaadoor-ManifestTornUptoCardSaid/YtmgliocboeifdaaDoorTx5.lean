-- Written by hp.py, a program of this session, over the kit's print of the translation. Not trusted: Lean checks it.
import Derived.Test.YtmgliocboeifdaaDoorTx0
import Derived.Test.YtmgliocboeifdaaDoorTx4
namespace Go.Proofs.YtmgliocboeifdaaDoor.T
open Go.RowKit Go.Proofs.YtmgliocboeifdaaDoorW.PrintWords Go.Proofs.YtmgliocboeifdaaDoorW.PrintLast Go.Proofs.YtmgliocboeifdaaDoorW.PrintMore
attribute [local go_sem] max2_int min2_int max_two min_two max_three min_three max_four min_four   -- for this text's walks alone
set_option linter.unusedVariables false
set_option linter.unusedSimpArgs false

/-! ### checksum_Sum: function 43 -/
def checksum_Sum.f (l0 : List Int) : Option (Int) := (checksum_Extend.f 0 l0).bind fun t237 => (some t237)
set_option maxHeartbeats 4000000 in
set_option maxRecDepth 100000 in
theorem checksum_Sum.calls (A0 : Option Addr) (c0 : Nat) (l0 : List Int) (r : Int) (w : World) (hr0 : Kd.C (Kd.int .u8) w A0 l0.length l0) (hc0 : l0.length ≤ c0) (h : checksum_Sum.f l0 = some r) :
  Calls Tryd.prog 43 #[.slice A0 l0.length c0] w fun e w' => e = .returned (.int .u32 r) ∧ Below w.heap.size w w' := by
 have HR0 := aK hr0
 have HC0 := aK hc0
 clear hr0 hc0
 have HB := aK (Below.refl w.heap.size w)
 have H : ((checksum_Extend.f 0 l0).bind fun t237 => (some t237)) = some r := h
 clear h
 replace H := Option.bind_eq_some_iff.mp H
 obtain ⟨t237,A20,H⟩ := H
 have A2 := aK A20
 clear A20
 obtain rfl := Option.some.inj H
 go_enter Tryd.func43,Tryd.ntmps43
 go_wp2_with (first|((with_reducible refine gate_callee (f := 51) rfl ?_);refine goesL_ (some 4) rfl rfl Tryd.func51 (by kernel_rfl) rfl #[.int .u32 0,.slice A0 l0.length c0] rfl (by (try simp only [List.map_toArray,List.map_cons,List.map_nil]);first|done|rfl|(simp only [List.length_drop,List.length_take];rfl)) ?_;(with_reducible refine (checksum_Extend.calls 0 _ _ l0 t237 _ ?side1 ?side2 A2.out).mono ?_);(case side1 => exact cM HR0.out);(case side2 => exact HC0.out);rintro e w3 ⟨rfl,hb⟩;refine ⟨_,rfl,?_⟩;replace HB := aK (below_step (bM HB.out) hb);(try clear hb)))
 go_ret
 exact ⟨by first|rfl|(simp [errW_none,errW_some] <;> rfl)|(simp [*,errW_none,errW_some] <;> rfl),bM HB.out⟩

/-! ### checksum_Seal: function 27 -/
def checksum_Seal.f (l0 : List Int) : Option (List Int) := (varint_Put.f ([] : List Int) (l0.length : Int)).bind fun t238 => (if t238.length + l0.length < 140737488355328 then ((some (t238 ++ l0 : List Int)).bind fun y241 => ((checksum_Sum.f y241).bind fun t244 => ((some (([(t244 / 16777216) % 256, (t244 / 65536) % 256, (t244 / 256) % 256, (t244) % 256] : List Int) : List Int)).bind fun y245 => (if y241.length + y245.length < 140737488355328 then (some (y241 ++ y245)) else (none))))) else (none))
set_option maxHeartbeats 4000000 in
set_option maxRecDepth 100000 in
theorem checksum_Seal.calls (A0 : Option Addr) (c0 : Nat) (l0 : List Int) (r : List Int) (w : World) (hr0 : Kd.C (Kd.int .u8) w A0 l0.length l0) (hc0 : l0.length ≤ c0) (h : checksum_Seal.f l0 = some r) :
  Calls Tryd.prog 27 #[.slice A0 l0.length c0] w fun e w' => ∃ v0_ : Value,e = .returned (v0_) ∧ Kd.R (Kd.int .u8) 5 w' w.heap.size (fun _ => True) v0_ r ∧ Below w.heap.size w w' := by
 have HR0 := aK hr0
 have HC0 := aK hc0
 clear hr0 hc0
 have HB := aK (Below.refl w.heap.size w)
 unfold checksum_Seal.f at h
 have H := h
 clear h
 replace H := Option.bind_eq_some_iff.mp H
 obtain ⟨t238,A20,H⟩ := H
 have A2 := aK A20
 clear A20
 by_cases c3 : t238.length + l0.length < 140737488355328
 ·rw [if_pos c3] at H
  have LMc3 := aK c3
  clear c3
  obtain ⟨y241,hy241⟩ : ∃ y_ : List Int,y_ = (t238 ++ l0) := ⟨_,rfl⟩
  replace H : ((checksum_Sum.f y241).bind fun t244 => ((some (([(t244 / 16777216) % 256,(t244 / 65536) % 256,(t244 / 256) % 256,(t244) % 256] : List Int) : List Int)).bind fun y245 => (if y241.length + y245.length < 140737488355328 then (some (y241 ++ y245)) else (none)))) = some r := by first|(rw [hy241];with_reducible exact H)|(have H2_ := (Option.bind_some _ _).symm.trans H;rw [hy241];with_reducible exact H2_)|(have H2_ := (Option.bind_some _ _).symm.trans H;with_reducible exact H2_)|with_reducible exact H|(rw [hy241];exact H)|exact H
  have Ny241 := aK hy241
  clear hy241
  replace H := Option.bind_eq_some_iff.mp H
  obtain ⟨t244,A40,H⟩ := H
  have A4 := aK A40
  clear A40
  obtain ⟨y245,hy245⟩ : ∃ y_ : List Int,y_ = (([(t244 / 16777216) % 256,(t244 / 65536) % 256,(t244 / 256) % 256,(t244) % 256] : List Int)) := ⟨_,rfl⟩
  replace H : (if y241.length + y245.length < 140737488355328 then (some (y241 ++ y245)) else (none)) = some r := by first|(rw [hy245];with_reducible exact H)|(have H2_ := (Option.bind_some _ _).symm.trans H;rw [hy245];with_reducible exact H2_)|(have H2_ := (Option.bind_some _ _).symm.trans H;with_reducible exact H2_)|with_reducible exact H|(rw [hy245];exact H)|exact H
  have Ny245 := aK hy245
  clear hy245
  obtain ⟨c5,H⟩ := iS H
  have LMc5 := aK c5
  clear c5
  obtain ⟨y248,hy248⟩ : ∃ y_ : List Int,y_ = (y241 ++ y245) := ⟨_,rfl⟩
  replace H : (some y248) = some r := by first|(rw [hy248];with_reducible exact H)|(have H2_ := (Option.bind_some _ _).symm.trans H;rw [hy248];with_reducible exact H2_)|(have H2_ := (Option.bind_some _ _).symm.trans H;with_reducible exact H2_)|with_reducible exact H|(rw [hy248];exact H)|exact H
  have Ny248 := aK hy248
  clear hy248
  obtain rfl := Option.some.inj H
  go_enter Tryd.func27,Tryd.ntmps27
  go_wp2_with (first|(go_at_call 38;refine calls_of_args (args' := #[.slice none ([] : List Int).length 0,.int .i64 (l0.length : Int)]) (by first|with_reducible rfl|(simp only [List.length_nil];done)|(simp only [List.length_nil];with_reducible rfl)) ?_;(with_reducible refine (varint_Put.calls _ _ ([] : List Int) (l0.length : Int) t238 _ ?side1 ?side2 A2.out).mono ?_);(case side1 => exact Kd.C_nil _ _);(case side2 => exact Nat.le_refl _);rintro e w6 ⟨v239,rfl,ho0,hb⟩;have HO240 := aK (Kd.R_lower ho0 (below_size (bM HB.out)));replace HB := aK (below_step (bM HB.out) hb);(try clear hb);(try clear hk);(try clear ho0))|((with_reducible refine gate_builtin (b := .append) (xs := #[.tmp 7,.tmp 8]) rfl ?_);at_builtin;refine Kd.R_append_rows (Kd.int .u8) (w0 := w) w.heap.size rfl (.tmp 7) (.tmp 8) 29 5 (.int .u8 0) 1 rfl Tryd.underlying29 info5 rfl (by decide) (by omega) v239 t238 l0 _ _ _ (fun _ => True) (fun _ => False) rfl rfl ?aO ?aR (fun _ _ h => h) (fun _ h => h.elim) ?aF ?aB ?aS ?aL ?_;(case aR => exact cM (Kd.C_below HR0.out HB.out));(case aB => exact (bM HB.out));(case aF => exact (fun _ _ => trivial));(case aO => exact (rM HO240.out));(case aS => exact (below_size (bM HB.out)));(case aL => have := LMc3.out;omega);intro v242 w7 ho hb hg hat;rw [← Ny241.out] at ho;replace HB := aK (hb);have HO243 := aK (ho);clear ho hb hg hat;obtain ⟨Ao8,co8,eo8⟩ := Kd.R_slice HO243.out;subst eo8)|((with_reducible refine gate_callee (f := 43) rfl ?_);refine goesL_ (some 11) rfl rfl Tryd.func43 (by kernel_rfl) rfl #[.slice Ao8 y241.length co8] rfl (by (try simp only [List.map_toArray,List.map_cons,List.map_nil]);first|done|rfl|(simp only [List.length_drop,List.length_take];rfl)) ?_;(with_reducible refine (checksum_Sum.calls _ _ y241 t244 _ ?side1 ?side2 A4.out).mono ?_);(case side1 => exact cM (Kd.R_reads' HO243.out).2.2);(case side2 => exact (Kd.R_reads' HO243.out).2.1);rintro e w9 ⟨rfl,hb⟩;refine ⟨_,rfl,?_⟩;replace HO243 := aK (Kd.R_below (rM HO243.out) hb);replace HB := aK (below_step (bM HB.out) hb);(try clear hb);(try clear hk))|((with_reducible refine gate_dst (N := 24) rfl ?_);refine Kd.R_lit (Kd.int .u8) _ 5 ?hg (N := 24) ?hd (xs := ([(t244 / 16777216) % 256,(t244 / 65536) % 256,(t244 / 256) % 256,(t244) % 256] : List Int)) (inner := [.int .u8 ((t244 / 16777216) % 256),.int .u8 ((t244 / 65536) % 256),.int .u8 ((t244 / 256) % 256),.int .u8 ((t244) % 256)]) (ok := fun _ => True) (okp := fun _ => True) ?hr ?hp (fun _ hk => hk) trivial (Below.refl _ _) (Nat.le_refl _) (by simp) ?_;(case hd => rfl);(case hg => rfl);(case hr => first|(go_simp;done)|(go_simp;rfl));(case hp => exact (Reps.one (show Kd.M (Kd.int .u8) _ _ _ ((t244 / 16777216) % 256) [.int .u8 ((t244 / 16777216) % 256)] from rfl) (Reps.one (show Kd.M (Kd.int .u8) _ _ _ ((t244 / 65536) % 256) [.int .u8 ((t244 / 65536) % 256)] from rfl) (Reps.one (show Kd.M (Kd.int .u8) _ _ _ ((t244 / 256) % 256) [.int .u8 ((t244 / 256) % 256)] from rfl) (Reps.one (show Kd.M (Kd.int .u8) _ _ _ ((t244) % 256) [.int .u8 ((t244) % 256)] from rfl) (Reps.none _ _))))));intro v246 w10 ho11 hb hg_ hnew_;clear hg_ hnew_;(first|rw [← Ny245.out] at ho11|(simp only [Int.reduceToNat] at ho11;rw [← Ny245.out] at ho11));have HO247 := aK (Kd.R_lower (Kd.R_new' ho11 (Kd.R_lt (rM HO243.out))) (below_size (bM HB.out)));replace HO243 := aK (Kd.R_elder' (rM HO243.out) (Kd.R_base ho11) hb);replace HB := aK (below_step (bM HB.out) hb);clear hb ho11;obtain ⟨Ao13,co13,eo13⟩ := Kd.R_slice HO247.out;subst eo13)|((with_reducible refine gate_builtin (b := .append) (xs := #[.tmp 12,.tmp 24]) rfl ?_);at_builtin;refine Kd.R_append_rows (Kd.int .u8) (w0 := w) w.heap.size rfl (.tmp 12) (.tmp 24) 29 5 (.int .u8 0) 1 rfl Tryd.underlying29 info5 rfl (by decide) (by omega) (.slice Ao8 y241.length co8) y241 y245 _ _ _ (fun k_ => some k_ ≠ (.slice Ao13 y245.length co13 : Value).ownBlock) (fun _ => False) rfl rfl ?aO ?aR (fun _ _ h => h) (fun _ h => h.elim) ?aF ?aB ?aS ?aL ?_;(case aR => exact cM (Kd.R_reads' HO247.out).2.2);(case aB => exact (bM HB.out));(case aF => exact (fun k_ hk => Kd.fresh' (Kd.R_lt (rM HO247.out)) k_ hk));(case aO => exact (by (with_reducible repeat (first|apply Kd.R_alloc|apply Kd.R_drewN|apply Kd.R_drew));exact Kd.R_mono HO243.out (fun _ hk => hk.2)));(case aS => exact (below_size (bM HB.out)));(case aL => have := LMc5.out;omega);intro v249 w12 ho hb hg hat;rw [← Ny248.out] at ho;replace HB := aK (hb);have HO250 := aK (ho);clear ho hb hg hat))
  go_ret
  exact ⟨_,by first|rfl|(simp [errW_none,errW_some] <;> rfl)|(simp [*,errW_none,errW_some] <;> rfl),rM (Kd.R_mono HO250.out (fun _ hk => trivial)),bM HB.out⟩
 ·rw [if_neg c3] at H
  exact absurd H (by simp)

/-! ### manifest_Write: function 15 -/
def manifest_Write.l0 : Nat → List Int → List (S37) → Int → Int → Option (List Int)
|0,_,_,_,_ => none
|k + 1,x3,x6,x7,x8 => if x8 < x7 then (if 0 ≤ x8 then (if x8 < (x6.length : Int) then ((manifest_Encode.f k ((rd_T37 x6 x8).f0) ((rd_T37 x6 x8).f1) ((rd_T37 x6 x8).f2) ((rd_T37 x6 x8).f3) ((rd_T37 x6 x8).f4) ((rd_T37 x6 x8).f5)).bind fun t253 => ((checksum_Seal.f t253).bind fun t256 => (if x3.length + t256.length < 140737488355328 then (manifest_Write.l0 k (x3 ++ t256) x6 x7 (wrap64 (x8 + 1))) else (none)))) else (none)) else (none)) else (some x3)
def manifest_Write.f (k : Nat) (l0 : List (S37)) : Option (List Int) := manifest_Write.l0 k ([] : List Int) l0 (l0.length : Int) 0
theorem manifest_Write.mono_l : ∀ k, (∀ y0 y1 y2 y3, LeO (manifest_Write.l0 k y0 y1 y2 y3) (manifest_Write.l0 (k + 1) y0 y1 y2 y3))
|0 => fun _ _ _ _ r h => by simp [manifest_Write.l0] at h
|k + 1 => by
  have ih0 := manifest_Write.mono_l k
  ·intro y0 y1 y2 y3
   unfold manifest_Write.l0
   repeat' (with_reducible first|exact ih0 _ _ _ _|exact manifest_Encode.mono _ _ _ _ _ _ _|exact LeO.refl _|exact LeO.none _|refine LeO.ite ?_ ?_|refine LeO.bind ?_ (fun _ => ?_))
theorem manifest_Write.mono : ∀ a0 k, LeO (manifest_Write.f k a0) (manifest_Write.f (k + 1) a0) := by
 intro a0 k
 have ih0 := manifest_Write.mono_l k
 unfold manifest_Write.f
 repeat' first
  |(with_reducible exact ih0 _ _ _ _)
  |(with_reducible exact manifest_Encode.mono _ _ _ _ _ _ _)
  |(with_reducible exact LeO.refl _)
  |(with_reducible exact LeO.none _)
  |(with_reducible refine LeO.ite ?_ ?_)
  |(with_reducible refine LeO.bind ?_ (fun _ => ?_))
  |exact ih0 _ _ _ _
  |exact manifest_Encode.mono _ _ _ _ _ _ _
  |exact LeO.none _
  |refine LeO.ite ?_ ?_
  |refine LeO.bind ?_ (fun _ => ?_)
set_option maxHeartbeats 4000000 in
set_option maxRecDepth 100000 in
theorem manifest_Write.calls (k : Nat) (A0 : Option Addr) (c0 : Nat) (l0 : List (S37)) (r : List Int) (w : World) (hr0 : Kd.C k37 w A0 l0.length l0) (hc0 : l0.length ≤ c0) (h : manifest_Write.f k l0 = some r) :
  Calls Tryd.prog 15 #[.slice A0 l0.length c0] w fun e w' => ∃ v0_ : Value,e = .returned (v0_) ∧ Kd.R (Kd.int .u8) 5 w' w.heap.size (fun _ => True) v0_ r ∧ Below w.heap.size w w' := by
 have hu37 := Tryd.underlying37
 have HR0 := aK hr0
 have HC0 := aK hc0
 clear hr0 hc0
 have HB := aK (Below.refl w.heap.size w)
 have H : (manifest_Write.l0 k ([] : List Int) l0 (l0.length : Int) 0) = some r := h
 clear h
 have H' := aK H
 clear H
 go_enter Tryd.func15,Tryd.ntmps15
 go_wp2
 go_loopg [3,8] k (fun kq v3 v8 w' => ∃ (x3_1 : List Int) (x8_1 : Int),v8 = .int .i64 x8_1 ∧ Aside0 (manifest_Write.l0 kq x3_1 l0 (l0.length : Int) x8_1 = some r) ∧ Aside0 (kq ≤ k) ∧ Aside0 (Kd.R (Kd.int .u8) 5 w' w.heap.size (fun _ => True) v3 x3_1) ∧ Aside0 (Below w.heap.size w w'))
 case atStart => exact ⟨(([] : List Int)),(0),(by first|rfl|(simp;done)|(simp [*];done)),H',⟨Nat.le_refl _⟩,⟨by first|exact Kd.R_nil _ _ _ _ _|exact Kd.N_nil _ _ _ _ _|exact Kd.V_nil _ _ _ _ _|exact Kd.Q_nil _ _ _ _ _|exact Kd.S_nil _ _ _ _ _⟩,⟨bM HB.out⟩⟩
 case round =>
  clear H'
  obtain ⟨x3_1,x8_1,rfl,HA,HK1,HO_3,HB⟩ := hrel
  cases gk with
 |zero => exact absurd HA.out (by simp [manifest_Write.l0])
 |succ k1 =>
   have H := HA.out
   clear HA
   simp only [manifest_Write.l0] at H
   by_cases c2 : x8_1 < (l0.length : Int)
   ·rw [if_pos c2] at H
    have c2b0 := decide_eq_true c2
    clear c2
    obtain ⟨c3,H⟩ := iS H
    have c3b0 := decide_eq_true c3
    clear c3
    obtain ⟨c4,H⟩ := iS H
    have c4b0 := decide_eq_true c4
    clear c4
    replace H := Option.bind_eq_some_iff.mp H
    obtain ⟨t253,A50,H⟩ := H
    have A5 := aK A50
    clear A50
    replace H := Option.bind_eq_some_iff.mp H
    obtain ⟨t256,A60,H⟩ := H
    have A6 := aK A60
    clear A60
    obtain ⟨c7,H⟩ := iS H
    have LMc7 := aK c7
    clear c7
    obtain ⟨y259,hy259⟩ : ∃ y_ : List Int,y_ = (x3_1 ++ t256) := ⟨_,rfl⟩
    replace H : (manifest_Write.l0 k1 y259 l0 (l0.length : Int) (wrap64 (x8_1 + 1))) = some r := by first|(rw [hy259];with_reducible exact H)|(have H2_ := (Option.bind_some _ _).symm.trans H;rw [hy259];with_reducible exact H2_)|(have H2_ := (Option.bind_some _ _).symm.trans H;with_reducible exact H2_)|with_reducible exact H|(rw [hy259];exact H)|exact H
    have Ny259 := aK hy259
    clear hy259
    have H' := aK H
    clear H
    have p251 : 0 ≤ (x8_1 : Int) := of_decide_eq_true (by assumption)
    have q251 : x8_1 < (l0.length : Int) := of_decide_eq_true (by assumption)
    obtain ⟨ad251,A251_3,c251_3,A251_4,c251_4,A251_5,c251_5,e251,hx251_0,hx251_1,hx251_2,hx251_3,hx251_4,hx251_5,hl251_3,hi251_3,hl251_4,hi251_4,hl251_5,hi251_5⟩ := at_T37 HR0.out x8_1 p251 q251
    cases e251
    replace hx251_0 := xM HB hx251_0
    replace hx251_1 := xM HB hx251_1
    replace hx251_2 := xM HB hx251_2
    replace hx251_3 := xM HB hx251_3
    replace hx251_4 := xM HB hx251_4
    replace hx251_5 := xM HB hx251_5
    have HR251_3 := aK hi251_3
    have HC251_3 := aK hl251_3
    clear hi251_3 hl251_3
    have HR251_4 := aK hi251_4
    have HC251_4 := aK hl251_4
    clear hi251_4 hl251_4
    have HR251_5 := aK hi251_5
    have HC251_5 := aK hl251_5
    clear hi251_5 hl251_5
    replace p251 := eq_true p251
    replace q251 := eq_true q251
    go_wp2_with (first|((with_reducible refine gate_dst (N := 5) rfl ?_);refine box_event ?hg (N := 5) ?hd (cs := #[.int .i64 0,.int .i64 0,.int .i64 0,.slice none 0 0,.slice none 0 0,.slice none 0 0]) (t := 37) ?hr ?_;(case hd => rfl);(case hg => rfl);(case hr => first|(go_simp;done)|(go_simp;rfl));intro gb252 hg w8 hbox hb;replace HO_3 := aK (Kd.R_below (rM HO_3.out) hb);have BK252 := aK (hbox);have GW252 := aK ((by rw [hg];exact (below_size (bM HB.out)) : w.heap.size ≤ gb252));have GJ252 := Ge.mk GW252.out;have GE252 := aK ((by rw [hg];exact (below_size (bM HB.out)) : w.heap.size ≤ gb252));have GI252 := Ge.mk GE252.out;replace HB := aK (below_step (bM HB.out) hb);clear hb hbox hg;obtain ⟨_,_,_,_,_,_,_,_,_,_,_,_⟩ := bk6_ BK252.out)|((with_reducible refine gate_callee (f := 19) rfl ?_);refine goesL_ (some 14) rfl rfl Tryd.func19 (by kernel_rfl) rfl #[.agg #[.int .i64 ((rd_T37 l0 x8_1).f0),.int .i64 ((rd_T37 l0 x8_1).f1),.int .i64 ((rd_T37 l0 x8_1).f2),.slice A251_3 ((rd_T37 l0 x8_1).f3).length c251_3,.slice A251_4 ((rd_T37 l0 x8_1).f4).length c251_4,.slice A251_5 ((rd_T37 l0 x8_1).f5).length c251_5]] rfl (by (try simp only [List.map_toArray,List.map_cons,List.map_nil]);first|done|rfl|(simp only [List.length_drop,List.length_take];rfl)) ?_;(with_reducible refine (manifest_Encode.calls k1 ((rd_T37 l0 x8_1).f0) ((rd_T37 l0 x8_1).f1) ((rd_T37 l0 x8_1).f2) _ _ ((rd_T37 l0 x8_1).f3) _ _ ((rd_T37 l0 x8_1).f4) _ _ ((rd_T37 l0 x8_1).f5) t253 _ ?side1 ?side2 ?side3 ?side4 ?side5 ?side6 A5.out).mono ?_);(case side1 => exact Kd.C_below HR251_3.out (bG HB.out));(case side2 => exact HC251_3.out);(case side3 => exact Kd.C_below HR251_4.out (bG HB.out));(case side4 => exact HC251_4.out);(case side5 => exact Kd.C_below HR251_5.out (bG HB.out));(case side6 => exact HC251_5.out);rintro e w10 ⟨v254,rfl,ho0,hb⟩;refine ⟨_,rfl,?_⟩;have HO255 := aK (Kd.R_lower (Kd.R_new' ho0 (Kd.R_lt (by (with_reducible repeat (first|apply Kd.R_alloc|apply Kd.R_drewN|apply Kd.R_drew));exact (Kd.R_mono (Kd.R_far (p := ⟨gb252,5,none⟩) (Kd.R_far (p := ⟨gb252,4,none⟩) (Kd.R_far (p := ⟨gb252,3,none⟩) (Kd.R_far (p := ⟨gb252,2,none⟩) (Kd.R_far (p := ⟨gb252,1,none⟩) (Kd.R_far (p := ⟨gb252,0,none⟩) (Kd.R_types HO_3.out BK252.out (by decide)) (fun _ hk => hk.2) (.int .i64 ((rd_T37 l0 x8_1).f0))) (fun _ hk => hk.2) (.int .i64 ((rd_T37 l0 x8_1).f1))) (fun _ hk => hk.2) (.int .i64 ((rd_T37 l0 x8_1).f2))) (fun _ hk => hk.2) (.slice A251_3 ((rd_T37 l0 x8_1).f3).length c251_3)) (fun _ hk => hk.2) (.slice A251_4 ((rd_T37 l0 x8_1).f4).length c251_4)) (fun _ hk => hk.2) (.slice A251_5 ((rd_T37 l0 x8_1).f5).length c251_5)) (fun _ h_ => h_.1))))) (below_size (bG HB.out)));replace HO_3 := aK (Kd.R_elder' (by (with_reducible repeat (first|apply Kd.R_alloc|apply Kd.R_drewN|apply Kd.R_drew));exact (Kd.R_mono (Kd.R_far (p := ⟨gb252,5,none⟩) (Kd.R_far (p := ⟨gb252,4,none⟩) (Kd.R_far (p := ⟨gb252,3,none⟩) (Kd.R_far (p := ⟨gb252,2,none⟩) (Kd.R_far (p := ⟨gb252,1,none⟩) (Kd.R_far (p := ⟨gb252,0,none⟩) (Kd.R_types HO_3.out BK252.out (by decide)) (fun _ hk => hk.2) (.int .i64 ((rd_T37 l0 x8_1).f0))) (fun _ hk => hk.2) (.int .i64 ((rd_T37 l0 x8_1).f1))) (fun _ hk => hk.2) (.int .i64 ((rd_T37 l0 x8_1).f2))) (fun _ hk => hk.2) (.slice A251_3 ((rd_T37 l0 x8_1).f3).length c251_3)) (fun _ hk => hk.2) (.slice A251_4 ((rd_T37 l0 x8_1).f4).length c251_4)) (fun _ hk => hk.2) (.slice A251_5 ((rd_T37 l0 x8_1).f5).length c251_5)) (fun _ h_ => h_.1))) (Kd.R_base ho0) hb);replace HB := aK (below_step (bG HB.out) hb);(try clear hb);(try clear hk);(try clear ho0);obtain ⟨Ao11,co11,eo11⟩ := Kd.R_slice HO255.out;subst eo11)|((with_reducible refine gate_callee (f := 27) rfl ?_);refine goesL_ (some 15) rfl rfl Tryd.func27 (by kernel_rfl) rfl #[.slice Ao11 t253.length co11] rfl (by (try simp only [List.map_toArray,List.map_cons,List.map_nil]);first|done|rfl|(simp only [List.length_drop,List.length_take];rfl)) ?_;(with_reducible refine (checksum_Seal.calls _ _ t253 t256 _ ?side1 ?side2 A6.out).mono ?_);(case side1 => exact cM (Kd.R_reads' HO255.out).2.2);(case side2 => exact (Kd.R_reads' HO255.out).2.1);rintro e w12 ⟨v257,rfl,ho0,hb⟩;refine ⟨_,rfl,?_⟩;have HO258 := aK (Kd.R_lower (Kd.R_new' (Kd.R_new' ho0 (Kd.R_lt (rM HO_3.out))) (Kd.R_lt (rM HO255.out))) (below_size (bG HB.out)));replace HO_3 := aK (Kd.R_elder' (rM HO_3.out) (Kd.R_base ho0) hb);replace HO255 := aK (Kd.R_elder' (rM HO255.out) (Kd.R_base ho0) hb);replace HB := aK (below_step (bG HB.out) hb);(try clear hb);(try clear hk);(try clear ho0);obtain ⟨Ao14,co14,eo14⟩ := Kd.R_slice HO258.out;subst eo14)|((with_reducible refine gate_builtin (b := .append) (xs := #[.tmp 12,.tmp 15]) rfl ?_);at_builtin;refine Kd.R_append_rows (Kd.int .u8) (w0 := w) w.heap.size rfl (.tmp 12) (.tmp 15) 29 5 (.int .u8 0) 1 rfl Tryd.underlying29 info5 rfl (by decide) (by omega) u3 x3_1 t256 _ _ _ (fun k_ => some k_ ≠ (.slice Ao11 t253.length co11 : Value).ownBlock ∧ some k_ ≠ (.slice Ao14 t256.length co14 : Value).ownBlock) (fun _ => False) rfl rfl ?aO ?aR (fun _ _ h => h) (fun _ h => h.elim) ?aF ?aB ?aS ?aL ?_;(case aR => exact cM (Kd.R_reads' HO258.out).2.2);(case aB => exact (bG HB.out));(case aF => exact (fun k_ hk => ⟨Kd.fresh' (Kd.R_lt (rM HO255.out)) k_ hk,Kd.fresh' (Kd.R_lt (rM HO258.out)) k_ hk⟩));(case aO => exact (by (with_reducible repeat (first|apply Kd.R_alloc|apply Kd.R_drewN|apply Kd.R_drew));exact Kd.R_mono HO_3.out (fun _ hk => ⟨hk.1.2,hk.2⟩)));(case aS => exact (below_size (bG HB.out)));(case aL => have := LMc7.out;omega);intro v260 w13 ho hb hg hat;rw [← Ny259.out] at ho;replace HB := aK (hb);have HO261 := aK (ho);clear ho hb hg hat))
    go_roundg k1
    case measure => have := HK1.out;omega
    case rel => exact ⟨(y259),(wrap64 (x8_1 + 1)),(by first|rfl|(simp;done)|(simp [*];done)),H',⟨by have := HK1.out;omega⟩,⟨rM (Kd.R_mono HO261.out (fun _ hk => trivial))⟩,⟨bG HB.out⟩⟩
   ·rw [if_neg c2] at H
    have c2b0 := decide_eq_false c2
    clear c2
    obtain rfl := Option.some.inj H
    go_wp2
    go_ret
    exact ⟨_,by first|rfl|(simp [errW_none,errW_some] <;> rfl)|(simp [*,errW_none,errW_some] <;> rfl),rM HO_3.out,bM HB.out⟩

end Go.Proofs.YtmgliocboeifdaaDoor.T
