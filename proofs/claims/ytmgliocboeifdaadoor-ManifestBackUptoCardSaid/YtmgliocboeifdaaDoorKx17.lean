import Derived.Test.YtmgliocboeifdaaDoorWAdd
import Derived.Test.YtmgliocboeifdaaDoorKx0
import Derived.Test.YtmgliocboeifdaaDoorKx4
import Derived.Test.YtmgliocboeifdaaDoorKx6
import Derived.Test.YtmgliocboeifdaaDoorKx8
import Derived.Test.YtmgliocboeifdaaDoorKx15
import Derived.Test.YtmgliocboeifdaaDoorKx16
namespace Go.Proofs.YtmgliocboeifdaaDoor.K
open Go.RowKit Go.Proofs.YtmgliocboeifdaaDoorW.PrintWords Go.Proofs.YtmgliocboeifdaaDoorW.PrintLast Go.Proofs.YtmgliocboeifdaaDoorW.PrintMore
attribute [local go_sem] max2_int min2_int max_two min_two max_three min_three max_four min_four
set_option linter.unusedVariables false
set_option linter.unusedSimpArgs false

/-! ### l33_ManifestBack: function 5 -/
mutual
def l33_ManifestBack.j0 : Nat → Bool → Int → Int → Int → List Int → List Int → List ByteArray → Option (Bool)
|0,_,_,_,_,_,_,_ => none
|k + 1,x24,x458000,x458001,x458002,x458003,x458004,x458005 => if x24 = true then (some false) else (if (x458003.length : Int) > 1000 then (l33_ManifestBack.j1 k true x458000 x458001 x458002 x458003 x458004 x458005) else (if (x458004.length : Int) > 1000 then (l33_ManifestBack.j1 k true x458000 x458001 x458002 x458003 x458004 x458005) else (if (x458005.length : Int) > 1000 then (l33_ManifestBack.j1 k true x458000 x458001 x458002 x458003 x458004 x458005) else (if x458000 < 0 then (l33_ManifestBack.j1 k true x458000 x458001 x458002 x458003 x458004 x458005) else (if x458000 > 4611686018427387904 then (l33_ManifestBack.j1 k true x458000 x458001 x458002 x458003 x458004 x458005) else ((l33_plain.f k (([(⟨1,x458001,x458002,x458003,x458004,x458005⟩ : S37)] : List (S37)))).bind fun t480 => (l33_ManifestBack.j1 k (!t480) x458000 x458001 x458002 x458003 x458004 x458005)))))))
def l33_ManifestBack.j1 : Nat → Bool → Int → Int → Int → List Int → List Int → List ByteArray → Option (Bool)
|0,_,_,_,_,_,_,_ => none
|k + 1,x58,x458000,x458001,x458002,x458003,x458004,x458005 => if x58 = true then (some true) else ((manifest_Encode.f k x458000 x458001 x458002 x458003 x458004 x458005).bind fun t481 => ((manifest_Decode.f k t481).bind fun bt484 => (if bt484.2.2.2.2.2.2 = 0 then ((r33_Same.f k bt484.1 bt484.2.1 bt484.2.2.1 bt484.2.2.2.1 bt484.2.2.2.2.1 bt484.2.2.2.2.2.1 x458000 x458001 x458002 x458003 x458004 x458005).bind fun t497 => (some t497)) else (some false))))
end
def l33_ManifestBack.f (k : Nat) (a0_0 : Int) (a0_1 : Int) (a0_2 : Int) (l0_3 : List Int) (l0_4 : List Int) (l0_5 : List ByteArray) (l1 : List Int) : Option (Bool) := (l33_alive.f k).bind fun t458 => (if t458 = true then ((manifest_Decode.f k l1).bind fun bt459 => (if bt459.2.2.2.2.2.2 = 0 then ((manifest_Encode.f k bt459.1 bt459.2.1 bt459.2.2.1 bt459.2.2.2.1 bt459.2.2.2.2.1 bt459.2.2.2.2.2.1).bind fun t473 => (l33_ManifestBack.j0 k ((strOfNums t473).toList != (strOfNums l1).toList) a0_0 a0_1 a0_2 l0_3 l0_4 l0_5)) else (l33_ManifestBack.j0 k false a0_0 a0_1 a0_2 l0_3 l0_4 l0_5))) else (some false))
theorem l33_ManifestBack.mono_l : ∀ k, (∀ y0 y1 y2 y3 y4 y5 y6, LeO (l33_ManifestBack.j0 k y0 y1 y2 y3 y4 y5 y6) (l33_ManifestBack.j0 (k + 1) y0 y1 y2 y3 y4 y5 y6)) ∧ (∀ y0 y1 y2 y3 y4 y5 y6, LeO (l33_ManifestBack.j1 k y0 y1 y2 y3 y4 y5 y6) (l33_ManifestBack.j1 (k + 1) y0 y1 y2 y3 y4 y5 y6))
|0 => ⟨fun _ _ _ _ _ _ _ r h => by simp [l33_ManifestBack.j0] at h,fun _ _ _ _ _ _ _ r h => by simp [l33_ManifestBack.j1] at h⟩
|k + 1 => by
  obtain ⟨ih0,ih1⟩ := l33_ManifestBack.mono_l k
  refine ⟨?_,?_⟩
  ·intro y0 y1 y2 y3 y4 y5 y6
   unfold l33_ManifestBack.j0
   repeat' (with_reducible first|exact ih1 _ _ _ _ _ _ _|exact l33_plain.mono _ _|exact LeO.refl _|exact LeO.none _|refine LeO.ite ?_ ?_|refine LeO.bind ?_ (fun _ => ?_))
  ·intro y0 y1 y2 y3 y4 y5 y6
   unfold l33_ManifestBack.j1
   repeat' (with_reducible first|exact r33_Same.mono _ _ _ _ _ _ _ _ _ _ _ _ _|exact manifest_Decode.mono _ _|exact manifest_Encode.mono _ _ _ _ _ _ _|exact LeO.refl _|exact LeO.none _|refine LeO.ite ?_ ?_|refine LeO.bind ?_ (fun _ => ?_))
theorem l33_ManifestBack.mono : ∀ a0 a1 a2 a3 a4 a5 a6 k, LeO (l33_ManifestBack.f k a0 a1 a2 a3 a4 a5 a6) (l33_ManifestBack.f (k + 1) a0 a1 a2 a3 a4 a5 a6) := by
 intro a0 a1 a2 a3 a4 a5 a6 k
 obtain ⟨ih0,ih1⟩ := l33_ManifestBack.mono_l k
 unfold l33_ManifestBack.f
 repeat' first
  |(with_reducible exact ih0 _ _ _ _ _ _ _)
  |(with_reducible exact ih1 _ _ _ _ _ _ _)
  |(with_reducible exact l33_alive.mono _)
  |(with_reducible exact l33_plain.mono _ _)
  |(with_reducible exact r33_Same.mono _ _ _ _ _ _ _ _ _ _ _ _ _)
  |(with_reducible exact manifest_Decode.mono _ _)
  |(with_reducible exact manifest_Encode.mono _ _ _ _ _ _ _)
  |(with_reducible exact LeO.refl _)
  |(with_reducible exact LeO.none _)
  |(with_reducible refine LeO.ite ?_ ?_)
  |(with_reducible refine LeO.bind ?_ (fun _ => ?_))
  |exact ih0 _ _ _ _ _ _ _
  |exact ih1 _ _ _ _ _ _ _
  |exact l33_alive.mono _
  |exact l33_plain.mono _ _
  |exact r33_Same.mono _ _ _ _ _ _ _ _ _ _ _ _ _
  |exact manifest_Decode.mono _ _
  |exact manifest_Encode.mono _ _ _ _ _ _ _
  |exact LeO.none _
  |refine LeO.ite ?_ ?_
  |refine LeO.bind ?_ (fun _ => ?_)
def l33_ManifestBack.T4 : Bool × List (List Nat × List Nat) := (true, [([], []), ([0], [0]), ([1], [1]), ([2], [2]), ([3, 2, 2], [2, 3]), ([4, 2], [2, 4]), ([2], [2]), ([6, 2], [2, 6]), ([5, 7, 2], [2, 5, 7]), ([2, 8], [2, 8])])
def l33_ManifestBack.B4 : List Nat := [0, 1, 3, 7, 15, 31, 7, 71, 255, 511]
theorem l33_ManifestBack.tab4 : rtab .any (opsOf Tryd.f5 4) = l33_ManifestBack.T4 := by kernel_rfl
theorem l33_ManifestBack.bits4 : waitsOk l33_ManifestBack.T4.2 l33_ManifestBack.B4 = true := by kernel_rfl
set_option maxHeartbeats 4000000 in
set_option maxRecDepth 100000 in
theorem l33_ManifestBack.calls (k : Nat) (a0 : Int) (aN : Int) (aO : Int) (aA : Nat → Prop) (aS : Option Addr) (aT : Nat) (ax : List Int) (aB : Nat → Prop) (aV : Option Addr) (aW : Nat) (ay : List Int) (aC : Nat → Prop) (aX : Option Addr) (aY : Nat) (az : List ByteArray) (A1 : Option Addr) (c1 : Nat) (l1 : List Int) (r : Bool) (w : World) (dn : Kd.V (Kd.int .i64) 3 w w.heap.size (fun k_ => aA k_) (.slice aS ax.length aT) ax) (dp : Kd.V (Kd.int .i64) 3 w w.heap.size (fun k_ => aB k_) (.slice aV ay.length aW) ay) (dq : Kd.V Kd.string 9 w w.heap.size (fun k_ => aC k_) (.slice aX az.length aY) az) (eh : Kd.C (Kd.int .u8) w A1 l1.length l1) (ei : l1.length ≤ c1) (h : l33_ManifestBack.f k a0 aN aO ax ay az l1 = some r) :
  Calls Tryd.prog 5 #[.agg #[.int .i64 a0,.int .i64 aN,.int .i64 aO,.slice aS ax.length aT,.slice aV ay.length aW,.slice aX az.length aY],.slice A1 l1.length c1] w fun e w' => e = .returned (.bool r) ∧ Below w.heap.size w w' := by
 have fh := Tryd.underlying37
 have a1 := aK (show Kd.V (Kd.int .i64) 3 w w.heap.size (fun k_ => ((aA k_ ∨ aB k_ ∨ aC k_) ∨ w.heap.size ≤ k_)) (.slice aS ax.length aT) ax from Kd.V_mono dn (fun k_ hk => .inl (.inl hk)))
 have a2 := aK (show Kd.V (Kd.int .i64) 3 w w.heap.size (fun k_ => ((aA k_ ∨ aB k_ ∨ aC k_) ∨ w.heap.size ≤ k_)) (.slice aV ay.length aW) ay from Kd.V_mono dp (fun k_ hk => .inl (.inr (.inl hk))))
 have a3 := aK (show Kd.V Kd.string 9 w w.heap.size (fun k_ => ((aA k_ ∨ aB k_ ∨ aC k_) ∨ w.heap.size ≤ k_)) (.slice aX az.length aY) az from Kd.V_mono dq (fun k_ hk => .inl (.inr (.inr hk))))
 have dh := aK eh
 have fi := aK ei
 clear eh ei
 have HB := aK (Below.refl w.heap.size w)
 unfold l33_ManifestBack.f at h
 have H := h
 clear h
 replace H := Option.bind_eq_some_iff.mp H
 obtain ⟨dT,ej,H⟩ := H
 have A3 := aK ej
 clear ej
 by_cases c4 : dT = true
 ·subst c4
  rw [if_pos rfl] at H
  replace H := Option.bind_eq_some_iff.mp H
  obtain ⟨⟨bk,bi,bd,am,al,an,c0⟩,ek,H⟩ := H
  replace H : (if c0 = 0 then ((manifest_Encode.f k bk bi bd am al an).bind fun cj => (l33_ManifestBack.j0 k ((strOfNums cj).toList != (strOfNums l1).toList) a0 aN aO ax ay az)) else (l33_ManifestBack.j0 k false a0 aN aO ax ay az)) = some r := H
  have A5 := aK ek
  clear ek
  have dU := aK H
  clear H
  go_enter Tryd.func5,Tryd.ntmps5
  go_upto_region 4 with (first|((with_reducible refine gate_dst (N := 2) rfl ?_);(try (refine gate_guard (by rfl) ?_;dsimp only));refine box_event ?hg (N := 2) ?hd (cs := #[.int .i64 a0,.int .i64 aN,.int .i64 aO,.slice aS ax.length aT,.slice aV ay.length aW,.slice aX az.length aY]) (t := 37) ?hr ?_;(case hd => rfl);(case hg => rfl);(case hr => first|(go_simp;done)|(go_simp;rfl));intro ao hg w7 hbox hb;replace a1 := aK (Kd.V_below (Kd.V_elderB (vM a1.out) ao (Nat.le_of_eq hg.symm)) hb);replace a2 := aK (Kd.V_below (Kd.V_elderB (vM a2.out) ao (Nat.le_of_eq hg.symm)) hb);replace a3 := aK (Kd.V_below (Kd.V_elderB (vM a3.out) ao (Nat.le_of_eq hg.symm)) hb);have aj := aK (hbox);have b3 := aK ((by rw [hg];exact (below_size (bM HB.out)) : w.heap.size ≤ ao));have dr := Ge.mk b3.out;have b4 := aK ((by rw [hg];exact (below_size (bM HB.out)) : w.heap.size ≤ ao));have dt := Ge.mk b4.out;replace HB := aK (below_step (bM HB.out) hb);clear hb hbox hg)|((with_reducible refine gate_callee (f := 7) rfl ?_);refine gL 8 Tryd.func7 #[] ?_;(with_reducible refine (l33_alive.calls k  true _ A3.out).mono ?_);rintro e w8 ⟨rfl,hb⟩;refine ⟨_,rfl,?_⟩;replace a1 := aK (Kd.V_below (vM a1.out) hb);replace a2 := aK (Kd.V_below (vM a2.out) hb);replace a3 := aK (Kd.V_below (vM a3.out) hb);replace aj := aK (blk_below (kM aj.out) hb);replace HB := aK (below_step (bG HB.out) hb);(try clear hb);(try clear hk))|((with_reducible refine gate_callee (f := 18) rfl ?_);refine gL 12 Tryd.func18 #[.slice A1 l1.length c1] ?_;(with_reducible refine (manifest_Decode.calls k _ _ l1 bk bi bd am al an c0 _ ?bm ?bn A5.out).mono ?_);(case bm => exact cM (Kd.C_below dh.out HB.out));(case bn => exact fi.out);rintro e w9 ⟨fj,fk,fl,rfl,bj,bz,bB,hb⟩;refine ⟨_,rfl,?_⟩;replace a1 := aK (Kd.V_mono (Kd.V_told (Kd.V_told (Kd.V_told (Kd.V_old (vM a1.out) hb) (Kd.R_base bj)) (Kd.R_base bz)) (Kd.R_base bB)) (fun _ h_ => h_.1));replace a2 := aK (Kd.V_mono (Kd.V_told (Kd.V_told (Kd.V_told (Kd.V_old (vM a2.out) hb) (Kd.R_base bj)) (Kd.R_base bz)) (Kd.R_base bB)) (fun _ h_ => h_.1));replace a3 := aK (Kd.V_mono (Kd.V_told (Kd.V_told (Kd.V_told (Kd.V_old (vM a3.out) hb) (Kd.R_base bj)) (Kd.R_base bz)) (Kd.R_base bB)) (fun _ h_ => h_.1));have a5 := aK (Kd.R_lower (Kd.R_newM (M := fun k_ => (w.heap.size ≤ k_)) bj (below_size (bG HB.out)) (fun k_ h_ => h_)) (below_size (bG HB.out)));have a6 := aK (Kd.R_lower (Kd.R_newM (M := fun k_ => (w.heap.size ≤ k_)) bz (below_size (bG HB.out)) (fun k_ h_ => h_)) (below_size (bG HB.out)));have a7 := aK (Kd.R_lower (Kd.R_newM (M := fun k_ => (w.heap.size ≤ k_)) bB (below_size (bG HB.out)) (fun k_ h_ => h_)) (below_size (bG HB.out)));replace aj := aK (blk_below (kM aj.out) hb);replace HB := aK (below_step (bG HB.out) hb);(try clear hb);(try clear hk);(try clear bj);(try clear bz);(try clear bB))|((with_reducible refine gate_dst (N := 5) rfl ?_);(try (refine gate_guard (by rfl) ?_;dsimp only));refine box_event ?hg (N := 5) ?hd (cs := #[.int .i64 0,.int .i64 0,.int .i64 0,.slice none 0 0,.slice none 0 0,.slice none 0 0]) (t := 37) ?hr ?_;(case hd => rfl);(case hg => rfl);(case hr => first|(go_simp;done)|(go_simp;rfl));intro aa hg fm hbox hb;replace a1 := aK (Kd.V_below (Kd.V_elderB (vM a1.out) aa (Nat.le_of_eq hg.symm)) hb);replace a2 := aK (Kd.V_below (Kd.V_elderB (vM a2.out) aa (Nat.le_of_eq hg.symm)) hb);replace a3 := aK (Kd.V_below (Kd.V_elderB (vM a3.out) aa (Nat.le_of_eq hg.symm)) hb);replace a5 := aK (Kd.R_below (rM a5.out) hb);replace a6 := aK (Kd.R_below (rM a6.out) hb);replace a7 := aK (Kd.R_below (rM a7.out) hb);have af := aK (hbox);have du := aK ((by rw [hg];exact (below_size (bG HB.out)) : w.heap.size ≤ aa));have el := Ge.mk du.out;have dv := aK ((by rw [hg];exact (below_size (bG HB.out)) : w.heap.size ≤ aa));have em := Ge.mk dv.out;replace HB := aK (below_step (bG HB.out) hb);have ak := aK (nbL aj.out hg);have aZ := aK (nbR aj.out hg);replace aj := aK (blk_below (kM aj.out) hb);clear hb hbox hg;have en := aZ.out;have ep := ak.out;obtain ⟨ck,cl,cm,cn,co,cp,cq,cr,ct,cu,cv,cw⟩ := bk6_ af.out;obtain ⟨ar,au,dV⟩ := Kd.R_slice a5.out;subst dV;obtain ⟨ap,aq,dW⟩ := Kd.R_slice a6.out;subst dW;obtain ⟨av,aw,dX⟩ := Kd.R_slice a7.out;subst dX)|((with_reducible refine gate_store (t := 37) (p := 5) rfl ?_);refine store_event (t := 37) (p := 5) (v := ?dY) (w1 := ((((((fm.setCell ⟨aa,0,none⟩ (.int .i64 bk)).setCell ⟨aa,1,none⟩ (.int .i64 bi)).setCell ⟨aa,2,none⟩ (.int .i64 bd)).setCell ⟨aa,3,none⟩ (.slice ar am.length au)).setCell ⟨aa,4,none⟩ (.slice ap al.length aq)).setCell ⟨aa,5,none⟩ (.slice av an.length aw))) ?hg ?ho ?hn ?hr ?_;(case ho => rfl);(case hg => rfl);(case hn => rfl);(case hr => first|(go_simp;done)|(go_simp;rfl));intro b5 hw;have bH : Aside0 (Kd.V (Kd.int .i64) 3 b5 w.heap.size (fun k_ => ((aA k_ ∨ aB k_ ∨ aC k_) ∨ w.heap.size ≤ k_) ∧ some k_ ≠ (.slice ar am.length au : Value).ownBlock ∧ some k_ ≠ (.slice ap al.length aq : Value).ownBlock ∧ some k_ ≠ (.slice av an.length aw : Value).ownBlock ∧ k_ ≠ ao ∧ k_ ≠ aa) (.slice aS ax.length aT) ax) := ⟨(by rw [hw];exact (by (with_reducible repeat (first|apply Kd.V_alloc|apply Kd.V_drewN|apply Kd.V_drew));exact Kd.V_mono (Kd.V_far (p := ⟨aa,5,none⟩) (Kd.V_far (p := ⟨aa,4,none⟩) (Kd.V_far (p := ⟨aa,3,none⟩) (Kd.V_far (p := ⟨aa,2,none⟩) (Kd.V_far (p := ⟨aa,1,none⟩) (Kd.V_far (p := ⟨aa,0,none⟩) (Kd.V_mono a1.out (fun k_ hk => (⟨hk,hk.2⟩ : _ ∧ k_ ≠ aa))) (fun _ hk => hk.2) (.int .i64 bk)) (fun _ hk => hk.2) (.int .i64 bi)) (fun _ hk => hk.2) (.int .i64 bd)) (fun _ hk => hk.2) (.slice ar am.length au)) (fun _ hk => hk.2) (.slice ap al.length aq)) (fun _ hk => hk.2) (.slice av an.length aw)) (fun _ hk => ⟨hk.1.1.1.1.1.1,⟨hk.1.1.1.1.2,⟨hk.1.1.1.2,⟨hk.1.1.2,⟨hk.1.1.1.1.1.2,hk.1.2⟩⟩⟩⟩⟩)))⟩;have bI : Aside0 (Kd.V (Kd.int .i64) 3 b5 w.heap.size (fun k_ => ((aA k_ ∨ aB k_ ∨ aC k_) ∨ w.heap.size ≤ k_) ∧ some k_ ≠ (.slice ar am.length au : Value).ownBlock ∧ some k_ ≠ (.slice ap al.length aq : Value).ownBlock ∧ some k_ ≠ (.slice av an.length aw : Value).ownBlock ∧ k_ ≠ ao ∧ k_ ≠ aa) (.slice aV ay.length aW) ay) := ⟨(by rw [hw];exact (by (with_reducible repeat (first|apply Kd.V_alloc|apply Kd.V_drewN|apply Kd.V_drew));exact Kd.V_mono (Kd.V_far (p := ⟨aa,5,none⟩) (Kd.V_far (p := ⟨aa,4,none⟩) (Kd.V_far (p := ⟨aa,3,none⟩) (Kd.V_far (p := ⟨aa,2,none⟩) (Kd.V_far (p := ⟨aa,1,none⟩) (Kd.V_far (p := ⟨aa,0,none⟩) (Kd.V_mono a2.out (fun k_ hk => (⟨hk,hk.2⟩ : _ ∧ k_ ≠ aa))) (fun _ hk => hk.2) (.int .i64 bk)) (fun _ hk => hk.2) (.int .i64 bi)) (fun _ hk => hk.2) (.int .i64 bd)) (fun _ hk => hk.2) (.slice ar am.length au)) (fun _ hk => hk.2) (.slice ap al.length aq)) (fun _ hk => hk.2) (.slice av an.length aw)) (fun _ hk => ⟨hk.1.1.1.1.1.1,⟨hk.1.1.1.1.2,⟨hk.1.1.1.2,⟨hk.1.1.2,⟨hk.1.1.1.1.1.2,hk.1.2⟩⟩⟩⟩⟩)))⟩;have bJ : Aside0 (Kd.V Kd.string 9 b5 w.heap.size (fun k_ => ((aA k_ ∨ aB k_ ∨ aC k_) ∨ w.heap.size ≤ k_) ∧ some k_ ≠ (.slice ar am.length au : Value).ownBlock ∧ some k_ ≠ (.slice ap al.length aq : Value).ownBlock ∧ some k_ ≠ (.slice av an.length aw : Value).ownBlock ∧ k_ ≠ ao ∧ k_ ≠ aa) (.slice aX az.length aY) az) := ⟨(by rw [hw];exact (by (with_reducible repeat (first|apply Kd.V_alloc|apply Kd.V_drewN|apply Kd.V_drew));exact Kd.V_mono (Kd.V_far (p := ⟨aa,5,none⟩) (Kd.V_far (p := ⟨aa,4,none⟩) (Kd.V_far (p := ⟨aa,3,none⟩) (Kd.V_far (p := ⟨aa,2,none⟩) (Kd.V_far (p := ⟨aa,1,none⟩) (Kd.V_far (p := ⟨aa,0,none⟩) (Kd.V_mono a3.out (fun k_ hk => (⟨hk,hk.2⟩ : _ ∧ k_ ≠ aa))) (fun _ hk => hk.2) (.int .i64 bk)) (fun _ hk => hk.2) (.int .i64 bi)) (fun _ hk => hk.2) (.int .i64 bd)) (fun _ hk => hk.2) (.slice ar am.length au)) (fun _ hk => hk.2) (.slice ap al.length aq)) (fun _ hk => hk.2) (.slice av an.length aw)) (fun _ hk => ⟨hk.1.1.1.1.1.1,⟨hk.1.1.1.1.2,⟨hk.1.1.1.2,⟨hk.1.1.2,⟨hk.1.1.1.1.1.2,hk.1.2⟩⟩⟩⟩⟩)))⟩;have bK : Aside0 (Kd.R (Kd.int .i64) 3 b5 w.heap.size (fun k_ => (w.heap.size ≤ k_) ∧ some k_ ≠ (.slice ap al.length aq : Value).ownBlock) (.slice ar am.length au) am) := ⟨(by rw [hw];exact (by (with_reducible repeat (first|apply Kd.R_alloc|apply Kd.R_drewN|apply Kd.R_drew));exact Kd.R_mono (Kd.R_far (p := ⟨aa,5,none⟩) (Kd.R_far (p := ⟨aa,4,none⟩) (Kd.R_far (p := ⟨aa,3,none⟩) (Kd.R_far (p := ⟨aa,2,none⟩) (Kd.R_far (p := ⟨aa,1,none⟩) (Kd.R_far (p := ⟨aa,0,none⟩) (Kd.R_types a5.out af.out (by decide)) (fun _ hk => hk.2) (.int .i64 bk)) (fun _ hk => hk.2) (.int .i64 bi)) (fun _ hk => hk.2) (.int .i64 bd)) (fun _ hk => hk.2) (.slice ar am.length au)) (fun _ hk => hk.2) (.slice ap al.length aq)) (fun _ hk => hk.2) (.slice av an.length aw)) (fun _ hk => ⟨hk.1.1,hk.1.2⟩)))⟩;have bL : Aside0 (Kd.R (Kd.int .i64) 3 b5 w.heap.size (fun k_ => (w.heap.size ≤ k_) ∧ some k_ ≠ (.slice ar am.length au : Value).ownBlock) (.slice ap al.length aq) al) := ⟨(by rw [hw];exact (by (with_reducible repeat (first|apply Kd.R_alloc|apply Kd.R_drewN|apply Kd.R_drew));exact Kd.R_mono (Kd.R_far (p := ⟨aa,5,none⟩) (Kd.R_far (p := ⟨aa,4,none⟩) (Kd.R_far (p := ⟨aa,3,none⟩) (Kd.R_far (p := ⟨aa,2,none⟩) (Kd.R_far (p := ⟨aa,1,none⟩) (Kd.R_far (p := ⟨aa,0,none⟩) (Kd.R_types a6.out af.out (by decide)) (fun _ hk => hk.2) (.int .i64 bk)) (fun _ hk => hk.2) (.int .i64 bi)) (fun _ hk => hk.2) (.int .i64 bd)) (fun _ hk => hk.2) (.slice ar am.length au)) (fun _ hk => hk.2) (.slice ap al.length aq)) (fun _ hk => hk.2) (.slice av an.length aw)) (fun _ hk => ⟨hk.1.1,hk.1.2⟩)))⟩;have bN : Aside0 (Kd.R Kd.string 9 b5 w.heap.size (fun k_ => (w.heap.size ≤ k_)) (.slice av an.length aw) an) := ⟨(by rw [hw];exact (by (with_reducible repeat (first|apply Kd.R_alloc|apply Kd.R_drewN|apply Kd.R_drew));exact Kd.R_mono (Kd.R_far (p := ⟨aa,5,none⟩) (Kd.R_far (p := ⟨aa,4,none⟩) (Kd.R_far (p := ⟨aa,3,none⟩) (Kd.R_far (p := ⟨aa,2,none⟩) (Kd.R_far (p := ⟨aa,1,none⟩) (Kd.R_far (p := ⟨aa,0,none⟩) (Kd.R_types a7.out af.out (by decide)) (fun _ hk => hk.2) (.int .i64 bk)) (fun _ hk => hk.2) (.int .i64 bi)) (fun _ hk => hk.2) (.int .i64 bd)) (fun _ hk => hk.2) (.slice ar am.length au)) (fun _ hk => hk.2) (.slice ap al.length aq)) (fun _ hk => hk.2) (.slice av an.length aw)) (fun _ hk => hk.1.1)))⟩;have bO : Aside0 (b5.heap[ao]? = some (.cells #[.int .i64 a0,.int .i64 aN,.int .i64 aO,.slice aS ax.length aT,.slice aV ay.length aW,.slice aX az.length aY] 37 (0,0))) := ⟨(by rw [hw];exact (by refine kO ?_;refine blk_far ?_ ak.out _;refine kO ?_;refine blk_far ?_ ak.out _;refine kO ?_;refine blk_far ?_ ak.out _;refine kO ?_;refine blk_far ?_ ak.out _;refine kO ?_;refine blk_far ?_ ak.out _;refine kO ?_;refine blk_far ?_ ak.out _;refine kO ?_;exact aj.out))⟩;have bP : Aside0 (b5.heap[aa]? = some (.cells #[.int .i64 bk,.int .i64 bi,.int .i64 bd,.slice ar am.length au,.slice ap al.length aq,.slice av an.length aw] 37 (0,0))) := ⟨(by rw [hw];exact (by refine kO ?_;refine blk_put (cs := #[.int .i64 bk,.int .i64 bi,.int .i64 bd,.slice ar am.length au,.slice ap al.length aq,.slice none 0 0]) ?_ 5 _ rfl;refine kO ?_;refine blk_put (cs := #[.int .i64 bk,.int .i64 bi,.int .i64 bd,.slice ar am.length au,.slice none 0 0,.slice none 0 0]) ?_ 4 _ rfl;refine kO ?_;refine blk_put (cs := #[.int .i64 bk,.int .i64 bi,.int .i64 bd,.slice none 0 0,.slice none 0 0,.slice none 0 0]) ?_ 3 _ rfl;refine kO ?_;refine blk_put (cs := #[.int .i64 bk,.int .i64 bi,.int .i64 0,.slice none 0 0,.slice none 0 0,.slice none 0 0]) ?_ 2 _ rfl;refine kO ?_;refine blk_put (cs := #[.int .i64 bk,.int .i64 0,.int .i64 0,.slice none 0 0,.slice none 0 0,.slice none 0 0]) ?_ 1 _ rfl;refine kO ?_;refine blk_put (cs := #[.int .i64 0,.int .i64 0,.int .i64 0,.slice none 0 0,.slice none 0 0,.slice none 0 0]) ?_ 0 _ rfl;refine kO ?_;exact af.out))⟩;have bQ : Aside0 (Below w.heap.size w b5) := ⟨(by rw [hw];exact (bG HB.out))⟩;clear hw;clear a1;clear a2;clear a3;clear a5;clear a6;clear a7;clear aj;clear af;clear HB;have a1 := bH;have a2 := bI;have a3 := bJ;have a5 := bK;have a6 := bL;have a7 := bN;have aj := bO;have af := bP;have HB := bQ;clear bH bI bJ bK bL bN bO bP bQ))
  (try simp only [Act.put,z1_,z2_,z3_])
  go_cut [24] (fun fn wc => ∃ (kq : Nat) (b2 : Bool),fn = .bool b2 ∧ Aside0 (l33_ManifestBack.j0 kq b2 a0 aN aO ax ay az = some r) ∧ Aside0 (kq ≤ k) ∧ Aside0 (Kd.V (Kd.int .i64) 3 wc w.heap.size (fun k_ => ((aA k_ ∨ aB k_ ∨ aC k_) ∨ w.heap.size ≤ k_) ∧ some k_ ≠ ((.slice ar am.length au) : Value).ownBlock ∧ some k_ ≠ ((.slice ap al.length aq) : Value).ownBlock ∧ some k_ ≠ ((.slice av an.length aw) : Value).ownBlock ∧ k_ ≠ ao ∧ k_ ≠ aa) (.slice aS ax.length aT) ax) ∧ Aside0 (Kd.V (Kd.int .i64) 3 wc w.heap.size (fun k_ => ((aA k_ ∨ aB k_ ∨ aC k_) ∨ w.heap.size ≤ k_) ∧ some k_ ≠ ((.slice ar am.length au) : Value).ownBlock ∧ some k_ ≠ ((.slice ap al.length aq) : Value).ownBlock ∧ some k_ ≠ ((.slice av an.length aw) : Value).ownBlock ∧ k_ ≠ ao ∧ k_ ≠ aa) (.slice aV ay.length aW) ay) ∧ Aside0 (Kd.V Kd.string 9 wc w.heap.size (fun k_ => ((aA k_ ∨ aB k_ ∨ aC k_) ∨ w.heap.size ≤ k_) ∧ some k_ ≠ ((.slice ar am.length au) : Value).ownBlock ∧ some k_ ≠ ((.slice ap al.length aq) : Value).ownBlock ∧ some k_ ≠ ((.slice av an.length aw) : Value).ownBlock ∧ k_ ≠ ao ∧ k_ ≠ aa) (.slice aX az.length aY) az) ∧ Aside0 (Kd.R (Kd.int .i64) 3 wc w.heap.size (fun k_ => (w.heap.size ≤ k_) ∧ some k_ ≠ ((.slice ap al.length aq) : Value).ownBlock) (.slice ar am.length au) am) ∧ Aside0 (Kd.R (Kd.int .i64) 3 wc w.heap.size (fun k_ => (w.heap.size ≤ k_) ∧ some k_ ≠ ((.slice ar am.length au) : Value).ownBlock) (.slice ap al.length aq) al) ∧ Aside0 (Kd.R Kd.string 9 wc w.heap.size (fun k_ => (w.heap.size ≤ k_)) (.slice av an.length aw) an) ∧ Aside0 (wc.heap[ao]? = some (.cells #[.int .i64 a0,.int .i64 aN,.int .i64 aO,(.slice aS ax.length aT),(.slice aV ay.length aW),(.slice aX az.length aY)] 37 (0,0))) ∧ Aside0 (wc.heap[aa]? = some (.cells #[.int .i64 bk,.int .i64 bi,.int .i64 bd,(.slice ar am.length au),(.slice ap al.length aq),(.slice av an.length aw)] 37 (0,0))) ∧ Aside0 (Below w.heap.size w wc))
  case first =>
   have H := dU.out
   clear dU
   by_cases da : c0 = 0
   ·rw [if_pos da] at H
    have bS := beq_iff_eq.mpr da
    have b6 := bne_eq_false_iff_eq.mpr da
    clear da
    (first|rw [bS]|(simp only [i64_w,i32_w];rw [bS])|rw [b6]|skip)
    replace H := Option.bind_eq_some_iff.mp H
    obtain ⟨cj,dw,H⟩ := H
    have fo := aK dw
    clear dw
    have H' := aK H
    clear H
    try go_wp2
    have bH := aK (Kd.V_drew a1.out)
    have bI := aK (Kd.V_drew a2.out)
    have bJ := aK (Kd.V_drew a3.out)
    have bK := aK (Kd.R_drew a5.out)
    have bL := aK (Kd.R_drew a6.out)
    have bN := aK (Kd.R_drew a7.out)
    have bO := aK (blk_drew aj.out)
    have bP := aK (blk_drew af.out)
    have bQ := aK (below_drew1 HB.out)
    clear a1
    clear a2
    clear a3
    clear a5
    clear a6
    clear a7
    clear aj
    clear af
    clear HB
    have a1 := bH
    have a2 := bI
    have a3 := bJ
    have a5 := bK
    have a6 := bL
    have a7 := bN
    have aj := bO
    have af := bP
    have HB := bQ
    clear bH bI bJ bK bL bN bO bP bQ
    refine start_ (n := 10) (S := fun w' => w'.cell? ⟨aa,0,none⟩ = some (.int .i64 bk) ∧ w'.cell? ⟨aa,1,none⟩ = some (.int .i64 bi) ∧ w'.cell? ⟨aa,2,none⟩ = some (.int .i64 bd) ∧ w'.cell? ⟨aa,3,none⟩ = some (.slice ar am.length au) ∧ w'.cell? ⟨aa,4,none⟩ = some (.slice ap al.length aq) ∧ w'.cell? ⟨aa,5,none⟩ = some (.slice av an.length aw) ∧ Kd.C (Kd.int .u8) w' A1 l1.length l1) (ds := []) (bA 10 0) (by kernel_rfl) rfl rfl ⟨(blk_cell af.out 0).trans rfl,(blk_cell af.out 1).trans rfl,(blk_cell af.out 2).trans rfl,(blk_cell af.out 3).trans rfl,(blk_cell af.out 4).trans rfl,(blk_cell af.out 5).trans rfl,Kd.C_below dh.out HB.out⟩ (fun hHeld => ?_);refine with_tabW l33_ManifestBack.tab4 l33_ManifestBack.bits4 (fun HT_ HW_ => ?_)
    generalize b5.drew = w19 at a1 a2 a3 a5 a6 a7 aj af HB hHeld ⊢
    refine pure_ (i := 0) (N := some 15) (v := ?_) (a' := ?_) (bA 10 1) rfl rfl (any_of HT_.out (by kernel_rfl)) (fun _ _ _ h => h) (Or.inl ⟨by rfl,?_⟩) ?_ ?_
    rotate_left
    ·intro w'
     go_simp
     with_reducible rfl
    rotate_left
    ·simp only [Act.put,z1_,z2_,z3_,i64_w,i32_w]
     rfl
    refine pure_ (i := 1) (N := some 16) (v := ?_) (a' := ?_) (bA 10 3) rfl rfl (any_of HT_.out (by kernel_rfl)) (fun _ _ _ h => h) (Or.inl ⟨by rfl,?_⟩) ?_ ?_
    rotate_left
    ·intro w'
     go_simp
     with_reducible rfl
    rotate_left
    ·simp only [Act.put,z1_,z2_,z3_,i64_w,i32_w]
     rfl
    refine pure_ (i := 2) (N := some 17) (v := ?_) (a' := ?_) (bA 10 7) rfl rfl (any_of HT_.out (by kernel_rfl)) (fun _ _ _ h => h) (Or.inl ⟨by rfl,?_⟩) ?_ ?_
    rotate_left
    ·intro w'
     go_simp
     with_reducible rfl
    rotate_left
    ·simp only [Act.put,z1_,z2_,z3_,i64_w,i32_w]
     rfl
    refine pure_ (i := 6) (N := some 21) (v := ?_) (a' := ?_) (bA 10 71) rfl rfl (any_of HT_.out (by kernel_rfl)) (fun _ _ _ h => h) (Or.inl ⟨by rfl,?_⟩) ?_ ?_
    rotate_left
    ·intro w'
     go_simp
     with_reducible rfl
    rotate_left
    ·simp only [Act.put,z1_,z2_,z3_,i64_w,i32_w]
     rfl
    refine take_ (i := 7) (N := some 22) (v := ?_) (a' := ?_) (bA 10 199) rfl rfl (take_ofW HT_.out HW_.out (by kernel_rfl)) (fun _ _ _ h => h) (Or.inl ⟨by rfl,?_⟩) hHeld ?_ ?_
    rotate_left
    ·rintro w' ⟨s0,s1,s2,s3,s4,s5,s6⟩
     have cv_ := Kd.C_string (P := Tryd.prog) (A := A1) (c := c1) Tryd.underlying29 Tryd.underlying5 Tryd.underlying9 s6
     go_simp
     with_reducible rfl
    rotate_left
    ·simp only [Act.put,z1_,z2_,z3_,i64_w,i32_w]
     rfl
    refine take_ (i := 3) (N := some 18) (v := ?_) (a' := ?_) (bA 10 207) rfl rfl (take_ofW HT_.out HW_.out (by kernel_rfl)) (fun _ _ _ h => h) (Or.inl ⟨by rfl,?_⟩) hHeld ?_ ?_
    rotate_left
    ·rintro w' ⟨s0,s1,s2,s3,s4,s5,s6⟩
     go_simp
     with_reducible rfl
    rotate_left
    ·simp only [Act.put,z1_,z2_,z3_,i64_w,i32_w]
     rfl
    refine one_ (i := 4) (N := some 19) (bA 10 223) rfl rfl (one_of HT_.out (by kernel_rfl)) (by decide) (fun K hK => ?_)
    refine goes_ Tryd.func19 (by kernel_rfl) rfl #[.agg #[.int .i64 bk,.int .i64 bi,.int .i64 bd,.slice ar am.length au,.slice ap al.length aq,.slice av an.length aw]] (by rfl) rfl rfl (by (try simp only [z4_,z5_,z6_]);first|done|rfl|(simp only [z7_,z8_];rfl)) ?_
    with_reducible refine (manifest_Encode.calls k bk bi bd _ _ am _ _ al _ _ an cj _ ?bm ?bn ?bC ?bD ?bE ?bF fo.out).mono ?_
    (case bm => exact cM (Kd.R_reads' a5.out).2.2)
    (case bn => exact (Kd.R_reads' a5.out).2.1)
    (case bC => exact cM (Kd.R_reads' a6.out).2.2)
    (case bD => exact (Kd.R_reads' a6.out).2.1)
    (case bE => exact cM (Kd.R_reads' a7.out).2.2)
    (case bF => exact (Kd.R_reads' a7.out).2.1)
    rintro e fA ⟨fp,rfl,bj,hb⟩
    refine ⟨_,rfl,?_⟩
    have bH := aK (Kd.V_elder' (vM a1.out) (Kd.R_base bj) hb)
    have bI := aK (Kd.V_elder' (vM a2.out) (Kd.R_base bj) hb)
    have bJ := aK (Kd.V_elder' (vM a3.out) (Kd.R_base bj) hb)
    have bK := aK (Kd.R_below (rM a5.out) hb)
    have bL := aK (Kd.R_below (rM a6.out) hb)
    have bN := aK (Kd.R_below (rM a7.out) hb)
    have bO := aK (Kd.R_lower (Kd.R_newM (M := fun k_ => (w.heap.size ≤ k_)) bj (below_size (bG HB.out)) (fun k_ h_ => h_)) (below_size (bG HB.out)))
    have bP := aK (blk_below (kM aj.out) hb)
    have bQ := aK (blk_below (kM af.out) hb)
    have b7 := aK (below_step (bG HB.out) hb)
    clear a1
    clear a2
    clear a3
    clear a5
    clear a6
    clear a7
    clear aj
    clear af
    clear HB
    have a1 := bH
    have a2 := bI
    have a3 := bJ
    have a5 := bK
    have a6 := bL
    have a7 := bN
    have dx := bO
    have aj := bP
    have af := bQ
    have HB := b7
    clear bH bI bJ bK bL bN bO bP bQ b7
    (try clear hb)
    (try clear hk)
    (try clear bj)
    have cY := Kd.C_string (P := Tryd.prog) (A := A1) (c := c1) Tryd.underlying29 Tryd.underlying5 Tryd.underlying9 (Kd.C_below dh.out HB.out)
    have dZ := fun n_ : Nat => Kd.C_string (P := Tryd.prog) (A := A1) (c := c1) Tryd.underlying29 Tryd.underlying5 Tryd.underlying9 (Kd.C_drewN (Kd.C_below dh.out HB.out) n_)
    refine hK.out _ _ ⟨(blk_cell af.out 0).trans rfl,(blk_cell af.out 1).trans rfl,(blk_cell af.out 2).trans rfl,(blk_cell af.out 3).trans rfl,(blk_cell af.out 4).trans rfl,(blk_cell af.out 5).trans rfl,Kd.C_below dh.out HB.out⟩ (fun hHeld => ?_)
    clear hK K
    refine norm_ (a' := ?_) ?_ ?_
    rotate_left
    ·show Act.put _ (some 19) _ = _
     simp only [Act.put,z1_,z2_,z3_,i64_w,i32_w]
     rfl
    refine one_ (i := 5) (N := some 20) (bA 10 255) rfl rfl (one_of HT_.out (by kernel_rfl)) (by decide) (fun K hK => ?_)
    have b8 := own_string (P := Tryd.prog) Tryd.underlying29 Tryd.underlying5 Tryd.underlying9 (Kd.own_of_R dx.out)
    refine value_ (w1 := ?_) (v := ?_) (by rfl) rfl ?_ ?_
    rotate_left 2
    ·go_simp
     constructor
     ·rfl
     ·rfl
    clear b8
    refine hK.out _ _ ⟨(blk_cell af.out 0).trans rfl,(blk_cell af.out 1).trans rfl,(blk_cell af.out 2).trans rfl,(blk_cell af.out 3).trans rfl,(blk_cell af.out 4).trans rfl,(blk_cell af.out 5).trans rfl,Kd.C_below dh.out HB.out⟩ (fun hHeld => ?_)
    clear hK K
    refine norm_ (a' := ?_) ?_ ?_
    rotate_left
    ·show Act.put _ (some 20) _ = _
     simp only [Act.put,z1_,z2_,z3_,i64_w,i32_w]
     rfl
    refine pure_ (i := 8) (N := some 23) (v := ?_) (a' := ?_) (bA 10 511) rfl rfl (any_of HT_.out (by kernel_rfl)) (fun _ _ _ h => h) (Or.inl ⟨by rfl,?_⟩) ?_ ?_
    rotate_left
    ·intro w'
     go_simp
     with_reducible rfl
    rotate_left
    ·simp only [Act.put,z1_,z2_,z3_,i64_w,i32_w]
     rfl
    refine pure_ (i := 9) (N := some 24) (v := ?_) (a' := ?_) (bA 10 1023) rfl rfl (any_of HT_.out (by kernel_rfl)) (fun _ _ _ h => h) (Or.inl ⟨by rfl,?_⟩) ?_ ?_
    rotate_left
    ·intro w'
     go_simp
     with_reducible rfl
    rotate_left
    ·simp only [Act.put,z1_,z2_,z3_,i64_w,i32_w]
     rfl
    refine done_ (done_of HT_.out (by kernel_rfl)) ?_
    try go_wp2
    go_meet
    case rel => exact ⟨_,(((strOfNums cj).toList != (strOfNums l1).toList)),(by first|rfl|(simp;done)|(simp [*];done)),H',⟨by first|omega|exact Nat.le_refl _⟩,⟨by (with_reducible repeat (first|apply Kd.V_alloc|apply Kd.V_drewN|apply Kd.V_drew));exact Kd.V_mono a1.out (fun _ hk => by first|exact ⟨hk.1,⟨hk.2.1,⟨hk.2.2.1,⟨hk.2.2.2.1,⟨hk.2.2.2.2.2.1,hk.2.2.2.2.2.2⟩⟩⟩⟩⟩|exact hk.1)⟩,⟨by (with_reducible repeat (first|apply Kd.V_alloc|apply Kd.V_drewN|apply Kd.V_drew));exact Kd.V_mono a2.out (fun _ hk => by first|exact ⟨hk.1,⟨hk.2.1,⟨hk.2.2.1,⟨hk.2.2.2.1,⟨hk.2.2.2.2.2.1,hk.2.2.2.2.2.2⟩⟩⟩⟩⟩|exact hk.1)⟩,⟨by (with_reducible repeat (first|apply Kd.V_alloc|apply Kd.V_drewN|apply Kd.V_drew));exact Kd.V_mono a3.out (fun _ hk => by first|exact ⟨hk.1,⟨hk.2.1,⟨hk.2.2.1,⟨hk.2.2.2.1,⟨hk.2.2.2.2.2.1,hk.2.2.2.2.2.2⟩⟩⟩⟩⟩|exact hk.1)⟩,⟨rM a5.out⟩,⟨rM a6.out⟩,⟨rM a7.out⟩,⟨kM aj.out⟩,⟨kM af.out⟩,⟨bG HB.out⟩⟩
   ·rw [if_neg da] at H
    have bS := beq_eq_false_iff_ne.mpr da
    have b6 := bne_iff_ne.mpr da
    (first|rw [bS]|(simp only [i64_w,i32_w];rw [bS])|rw [b6]|skip)
    have H' := aK H
    clear H
    try go_wp2
    have bH := aK (Kd.V_drew a1.out)
    have bI := aK (Kd.V_drew a2.out)
    have bJ := aK (Kd.V_drew a3.out)
    have bK := aK (Kd.R_drew a5.out)
    have bL := aK (Kd.R_drew a6.out)
    have bN := aK (Kd.R_drew a7.out)
    have bO := aK (blk_drew aj.out)
    have bP := aK (blk_drew af.out)
    have bQ := aK (below_drew1 HB.out)
    clear a1
    clear a2
    clear a3
    clear a5
    clear a6
    clear a7
    clear aj
    clear af
    clear HB
    have a1 := bH
    have a2 := bI
    have a3 := bJ
    have a5 := bK
    have a6 := bL
    have a7 := bN
    have aj := bO
    have af := bP
    have HB := bQ
    clear bH bI bJ bK bL bN bO bP bQ
    refine start_ (n := 10) (S := fun w' => True) (ds := []) (bA 10 0) (by kernel_rfl) rfl rfl trivial (fun hHeld => ?_);refine with_tabW l33_ManifestBack.tab4 l33_ManifestBack.bits4 (fun HT_ HW_ => ?_)
    generalize b5.drew = w24 at a1 a2 a3 a5 a6 a7 aj af HB hHeld ⊢
    refine pure_ (i := 0) (N := some 15) (v := ?_) (a' := ?_) (bA 10 1) rfl rfl (any_of HT_.out (by kernel_rfl)) (fun _ _ _ h => h) (Or.inl ⟨by rfl,?_⟩) ?_ ?_
    rotate_left
    ·intro w'
     go_simp
     with_reducible rfl
    rotate_left
    ·simp only [Act.put,z1_,z2_,z3_,i64_w,i32_w]
     rfl
    refine pure_ (i := 1) (N := some 16) (v := ?_) (a' := ?_) (bA 10 3) rfl rfl (any_of HT_.out (by kernel_rfl)) (fun _ _ _ h => h) (Or.inl ⟨by rfl,?_⟩) ?_ ?_
    rotate_left
    ·intro w'
     go_simp
     with_reducible rfl
    rotate_left
    ·simp only [Act.put,z1_,z2_,z3_,i64_w,i32_w]
     rfl
    refine pure_ (i := 2) (N := some 17) (v := ?_) (a' := ?_) (bA 10 7) rfl rfl (any_of HT_.out (by kernel_rfl)) (fun _ _ _ h => h) (Or.inl ⟨by rfl,?_⟩) ?_ ?_
    rotate_left
    ·intro w'
     go_simp
     with_reducible rfl
    rotate_left
    ·simp only [Act.put,z1_,z2_,z3_,i64_w,i32_w]
     rfl
    refine pure_ (i := 3) (N := some 18) (v := undef) (a' := ?_) (bA 10 15) rfl rfl (any_of HT_.out (by kernel_rfl)) (fun _ _ _ h => h) (Or.inr ⟨by rfl,rfl⟩) ?_ ?_
    rotate_left
    ·simp only [Act.put,z1_,z2_,z3_,i64_w,i32_w]
     rfl
    refine pure_ (i := 4) (N := some 19) (v := undef) (a' := ?_) (bA 10 31) rfl rfl (any_of HT_.out (by kernel_rfl)) (fun _ _ _ h => h) (Or.inr ⟨by rfl,rfl⟩) ?_ ?_
    rotate_left
    ·simp only [Act.put,z1_,z2_,z3_,i64_w,i32_w]
     rfl
    refine pure_ (i := 5) (N := some 20) (v := undef) (a' := ?_) (bA 10 63) rfl rfl (any_of HT_.out (by kernel_rfl)) (fun _ _ _ h => h) (Or.inr ⟨by rfl,rfl⟩) ?_ ?_
    rotate_left
    ·simp only [Act.put,z1_,z2_,z3_,i64_w,i32_w]
     rfl
    refine pure_ (i := 6) (N := some 21) (v := undef) (a' := ?_) (bA 10 127) rfl rfl (any_of HT_.out (by kernel_rfl)) (fun _ _ _ h => h) (Or.inr ⟨by rfl,rfl⟩) ?_ ?_
    rotate_left
    ·simp only [Act.put,z1_,z2_,z3_,i64_w,i32_w]
     rfl
    refine pure_ (i := 7) (N := some 22) (v := undef) (a' := ?_) (bA 10 255) rfl rfl (any_of HT_.out (by kernel_rfl)) (fun _ _ _ h => h) (Or.inr ⟨by rfl,rfl⟩) ?_ ?_
    rotate_left
    ·simp only [Act.put,z1_,z2_,z3_,i64_w,i32_w]
     rfl
    refine pure_ (i := 8) (N := some 23) (v := undef) (a' := ?_) (bA 10 511) rfl rfl (any_of HT_.out (by kernel_rfl)) (fun _ _ _ h => h) (Or.inr ⟨by rfl,rfl⟩) ?_ ?_
    rotate_left
    ·simp only [Act.put,z1_,z2_,z3_,i64_w,i32_w]
     rfl
    refine pure_ (i := 9) (N := some 24) (v := ?_) (a' := ?_) (bA 10 1023) rfl rfl (any_of HT_.out (by kernel_rfl)) (fun _ _ _ h => h) (Or.inl ⟨by rfl,?_⟩) ?_ ?_
    rotate_left
    ·intro w'
     go_simp
     with_reducible rfl
    rotate_left
    ·simp only [Act.put,z1_,z2_,z3_,i64_w,i32_w]
     rfl
    refine done_ (done_of HT_.out (by kernel_rfl)) ?_
    try go_wp2
    go_meet
    case rel => exact ⟨_,(false),(by first|rfl|(simp;done)|(simp [*];done)),H',⟨by first|omega|exact Nat.le_refl _⟩,⟨vM a1.out⟩,⟨vM a2.out⟩,⟨vM a3.out⟩,⟨rM a5.out⟩,⟨rM a6.out⟩,⟨rM a7.out⟩,⟨kM aj.out⟩,⟨kM af.out⟩,⟨bG HB.out⟩⟩
  case rest =>
   clear dU
   try clear p2
   try clear hcv2
   try clear c4
   try clear b8
   try clear cY
   try clear ck
   try clear cl
   try clear cm
   try clear cn
   try clear co
   try clear cp
   try clear cq
   try clear cr
   try clear ct
   try clear cu
   try clear cv
   try clear cw
   obtain ⟨kq,b2,rfl,HA,di,ab,ac,ad,ag,ah,ai,aj,af,HB⟩ := hcut
   cases kq with
  |zero => exact absurd HA.out (by simp [l33_ManifestBack.j0])
  |succ kj5 =>
    have H := HA.out
    clear HA
    simp only [l33_ManifestBack.j0] at H
    by_cases dy : b2 = true
    ·subst dy
     rw [if_pos rfl] at H
     obtain rfl := Option.some.inj H
     go_wp2
     go_ret
     exact ⟨by first|rfl|(simp [errW_none,errW_some] <;> rfl)|(simp [*,errW_none,errW_some] <;> rfl),bG HB.out⟩
    ·replace dy := Bool.eq_false_iff.mpr dy
     subst dy
     rw [if_neg (show ¬ (false = true) by decide)] at H
     have db := aK H
     clear H
     have er := ak.out
     have es := aZ.out
     obtain ⟨cx,cy,cz,cA,cB,cC,cD,cE,cF,cG,cH,cI⟩ := bk6_ aj.out
     go_upto_region 8 with (first|((with_reducible refine gate_dst (N := 7) rfl ?_);(try (refine gate_guard (by rfl) ?_;dsimp only));refine box_event ?hg (N := 7) ?hd (cs := #[.int .i64 0,.int .i64 0,.int .i64 0,.slice none 0 0,.slice none 0 0,.slice none 0 0]) (t := 37) ?hr ?_;(case hd => rfl);(case hg => rfl);(case hr => first|(go_simp;done)|(go_simp;rfl));intro ae hg fq hbox hb;replace ab := aK (Kd.V_below (Kd.V_elderB (vM ab.out) ae (Nat.le_of_eq hg.symm)) hb);replace ac := aK (Kd.V_below (Kd.V_elderB (vM ac.out) ae (Nat.le_of_eq hg.symm)) hb);replace ad := aK (Kd.V_below (Kd.V_elderB (vM ad.out) ae (Nat.le_of_eq hg.symm)) hb);replace ag := aK (Kd.R_below (rM ag.out) hb);replace ah := aK (Kd.R_below (rM ah.out) hb);replace ai := aK (Kd.R_below (rM ai.out) hb);have aM := aK (hbox);have dz := aK ((by rw [hg];exact (below_size (bG HB.out)) : w.heap.size ≤ ae));have et := Ge.mk dz.out;have dB := aK ((by rw [hg];exact (below_size (bG HB.out)) : w.heap.size ≤ ae));have eu := Ge.mk dB.out;replace HB := aK (below_step (bG HB.out) hb);have aE := aK (nbL aj.out hg);have a4 := aK (nbR aj.out hg);replace aj := aK (blk_below (kM aj.out) hb);have aR := aK (nbL af.out hg);have aF := aK (nbR af.out hg);replace af := aK (blk_below (kM af.out) hb);clear hb hbox hg;have ev := a4.out;have ew := aE.out;have ex := aF.out;have ey := aR.out;obtain ⟨cJ,cK,cL,cN,cO,cP,cQ,cR,cS,cT,cU,cV⟩ := bk6_ aM.out)|((with_reducible refine gate_store (t := 3) (p := 26) rfl ?_);refine store_event (t := 3) (p := 26) (v := ?d0) (w1 := (((((((fq.setCell ⟨ae,0,none⟩ (.int .i64 a0)).setCell ⟨ae,1,none⟩ (.int .i64 aN)).setCell ⟨ae,2,none⟩ (.int .i64 aO)).setCell ⟨ae,3,none⟩ (.slice aS ax.length aT)).setCell ⟨ae,4,none⟩ (.slice aV ay.length aW)).setCell ⟨ae,5,none⟩ (.slice aX az.length aY)).setCell ⟨ae,0,none⟩ (.int .i64 1))) ?hg ?ho ?hn ?hr ?_;(case ho => rfl);(case hg => rfl);(case hn => rfl);(case hr => first|(go_simp;done)|(go_simp;rfl));intro b9 hw;have bH : Aside0 (Kd.V (Kd.int .i64) 3 b9 w.heap.size (fun k_ => ((aA k_ ∨ aB k_ ∨ aC k_) ∨ w.heap.size ≤ k_) ∧ some k_ ≠ (.slice ar am.length au : Value).ownBlock ∧ some k_ ≠ (.slice ap al.length aq : Value).ownBlock ∧ some k_ ≠ (.slice av an.length aw : Value).ownBlock ∧ k_ ≠ ao ∧ k_ ≠ aa ∧ k_ ≠ ae) (.slice aS ax.length aT) ax) := ⟨(by rw [hw];exact (by (with_reducible repeat (first|apply Kd.V_alloc|apply Kd.V_drewN|apply Kd.V_drew));exact Kd.V_mono (Kd.V_far (p := ⟨ae,0,none⟩) (Kd.V_far (p := ⟨ae,5,none⟩) (Kd.V_far (p := ⟨ae,4,none⟩) (Kd.V_far (p := ⟨ae,3,none⟩) (Kd.V_far (p := ⟨ae,2,none⟩) (Kd.V_far (p := ⟨ae,1,none⟩) (Kd.V_far (p := ⟨ae,0,none⟩) (Kd.V_mono ab.out (fun k_ hk => (⟨hk,hk.2⟩ : _ ∧ k_ ≠ ae))) (fun _ hk => hk.2) (.int .i64 a0)) (fun _ hk => hk.2) (.int .i64 aN)) (fun _ hk => hk.2) (.int .i64 aO)) (fun _ hk => hk.2) (.slice aS ax.length aT)) (fun _ hk => hk.2) (.slice aV ay.length aW)) (fun _ hk => hk.2) (.slice aX az.length aY)) (fun _ hk => hk.2) (.int .i64 1)) (fun _ hk => ⟨hk.1.1.1,⟨hk.1.1.2.1,⟨hk.1.1.2.2.1,⟨hk.1.1.2.2.2.1,⟨hk.1.1.2.2.2.2.1,⟨hk.1.1.2.2.2.2.2,hk.1.2⟩⟩⟩⟩⟩⟩)))⟩;have bI : Aside0 (Kd.V (Kd.int .i64) 3 b9 w.heap.size (fun k_ => ((aA k_ ∨ aB k_ ∨ aC k_) ∨ w.heap.size ≤ k_) ∧ some k_ ≠ (.slice ar am.length au : Value).ownBlock ∧ some k_ ≠ (.slice ap al.length aq : Value).ownBlock ∧ some k_ ≠ (.slice av an.length aw : Value).ownBlock ∧ k_ ≠ ao ∧ k_ ≠ aa ∧ k_ ≠ ae) (.slice aV ay.length aW) ay) := ⟨(by rw [hw];exact (by (with_reducible repeat (first|apply Kd.V_alloc|apply Kd.V_drewN|apply Kd.V_drew));exact Kd.V_mono (Kd.V_far (p := ⟨ae,0,none⟩) (Kd.V_far (p := ⟨ae,5,none⟩) (Kd.V_far (p := ⟨ae,4,none⟩) (Kd.V_far (p := ⟨ae,3,none⟩) (Kd.V_far (p := ⟨ae,2,none⟩) (Kd.V_far (p := ⟨ae,1,none⟩) (Kd.V_far (p := ⟨ae,0,none⟩) (Kd.V_mono ac.out (fun k_ hk => (⟨hk,hk.2⟩ : _ ∧ k_ ≠ ae))) (fun _ hk => hk.2) (.int .i64 a0)) (fun _ hk => hk.2) (.int .i64 aN)) (fun _ hk => hk.2) (.int .i64 aO)) (fun _ hk => hk.2) (.slice aS ax.length aT)) (fun _ hk => hk.2) (.slice aV ay.length aW)) (fun _ hk => hk.2) (.slice aX az.length aY)) (fun _ hk => hk.2) (.int .i64 1)) (fun _ hk => ⟨hk.1.1.1,⟨hk.1.1.2.1,⟨hk.1.1.2.2.1,⟨hk.1.1.2.2.2.1,⟨hk.1.1.2.2.2.2.1,⟨hk.1.1.2.2.2.2.2,hk.1.2⟩⟩⟩⟩⟩⟩)))⟩;have bJ : Aside0 (Kd.V Kd.string 9 b9 w.heap.size (fun k_ => ((aA k_ ∨ aB k_ ∨ aC k_) ∨ w.heap.size ≤ k_) ∧ some k_ ≠ (.slice ar am.length au : Value).ownBlock ∧ some k_ ≠ (.slice ap al.length aq : Value).ownBlock ∧ some k_ ≠ (.slice av an.length aw : Value).ownBlock ∧ k_ ≠ ao ∧ k_ ≠ aa ∧ k_ ≠ ae) (.slice aX az.length aY) az) := ⟨(by rw [hw];exact (by (with_reducible repeat (first|apply Kd.V_alloc|apply Kd.V_drewN|apply Kd.V_drew));exact Kd.V_mono (Kd.V_far (p := ⟨ae,0,none⟩) (Kd.V_far (p := ⟨ae,5,none⟩) (Kd.V_far (p := ⟨ae,4,none⟩) (Kd.V_far (p := ⟨ae,3,none⟩) (Kd.V_far (p := ⟨ae,2,none⟩) (Kd.V_far (p := ⟨ae,1,none⟩) (Kd.V_far (p := ⟨ae,0,none⟩) (Kd.V_mono ad.out (fun k_ hk => (⟨hk,hk.2⟩ : _ ∧ k_ ≠ ae))) (fun _ hk => hk.2) (.int .i64 a0)) (fun _ hk => hk.2) (.int .i64 aN)) (fun _ hk => hk.2) (.int .i64 aO)) (fun _ hk => hk.2) (.slice aS ax.length aT)) (fun _ hk => hk.2) (.slice aV ay.length aW)) (fun _ hk => hk.2) (.slice aX az.length aY)) (fun _ hk => hk.2) (.int .i64 1)) (fun _ hk => ⟨hk.1.1.1,⟨hk.1.1.2.1,⟨hk.1.1.2.2.1,⟨hk.1.1.2.2.2.1,⟨hk.1.1.2.2.2.2.1,⟨hk.1.1.2.2.2.2.2,hk.1.2⟩⟩⟩⟩⟩⟩)))⟩;have bK : Aside0 (Kd.R (Kd.int .i64) 3 b9 w.heap.size (fun k_ => (w.heap.size ≤ k_) ∧ some k_ ≠ (.slice ap al.length aq : Value).ownBlock) (.slice ar am.length au) am) := ⟨(by rw [hw];exact (by (with_reducible repeat (first|apply Kd.R_alloc|apply Kd.R_drewN|apply Kd.R_drew));exact Kd.R_mono (Kd.R_far (p := ⟨ae,0,none⟩) (Kd.R_far (p := ⟨ae,5,none⟩) (Kd.R_far (p := ⟨ae,4,none⟩) (Kd.R_far (p := ⟨ae,3,none⟩) (Kd.R_far (p := ⟨ae,2,none⟩) (Kd.R_far (p := ⟨ae,1,none⟩) (Kd.R_far (p := ⟨ae,0,none⟩) (Kd.R_types ag.out aM.out (by decide)) (fun _ hk => hk.2) (.int .i64 a0)) (fun _ hk => hk.2) (.int .i64 aN)) (fun _ hk => hk.2) (.int .i64 aO)) (fun _ hk => hk.2) (.slice aS ax.length aT)) (fun _ hk => hk.2) (.slice aV ay.length aW)) (fun _ hk => hk.2) (.slice aX az.length aY)) (fun _ hk => hk.2) (.int .i64 1)) (fun _ hk => ⟨hk.1.1,hk.1.2⟩)))⟩;have bL : Aside0 (Kd.R (Kd.int .i64) 3 b9 w.heap.size (fun k_ => (w.heap.size ≤ k_) ∧ some k_ ≠ (.slice ar am.length au : Value).ownBlock) (.slice ap al.length aq) al) := ⟨(by rw [hw];exact (by (with_reducible repeat (first|apply Kd.R_alloc|apply Kd.R_drewN|apply Kd.R_drew));exact Kd.R_mono (Kd.R_far (p := ⟨ae,0,none⟩) (Kd.R_far (p := ⟨ae,5,none⟩) (Kd.R_far (p := ⟨ae,4,none⟩) (Kd.R_far (p := ⟨ae,3,none⟩) (Kd.R_far (p := ⟨ae,2,none⟩) (Kd.R_far (p := ⟨ae,1,none⟩) (Kd.R_far (p := ⟨ae,0,none⟩) (Kd.R_types ah.out aM.out (by decide)) (fun _ hk => hk.2) (.int .i64 a0)) (fun _ hk => hk.2) (.int .i64 aN)) (fun _ hk => hk.2) (.int .i64 aO)) (fun _ hk => hk.2) (.slice aS ax.length aT)) (fun _ hk => hk.2) (.slice aV ay.length aW)) (fun _ hk => hk.2) (.slice aX az.length aY)) (fun _ hk => hk.2) (.int .i64 1)) (fun _ hk => ⟨hk.1.1,hk.1.2⟩)))⟩;have bN : Aside0 (Kd.R Kd.string 9 b9 w.heap.size (fun k_ => (w.heap.size ≤ k_)) (.slice av an.length aw) an) := ⟨(by rw [hw];exact (by (with_reducible repeat (first|apply Kd.R_alloc|apply Kd.R_drewN|apply Kd.R_drew));exact Kd.R_mono (Kd.R_far (p := ⟨ae,0,none⟩) (Kd.R_far (p := ⟨ae,5,none⟩) (Kd.R_far (p := ⟨ae,4,none⟩) (Kd.R_far (p := ⟨ae,3,none⟩) (Kd.R_far (p := ⟨ae,2,none⟩) (Kd.R_far (p := ⟨ae,1,none⟩) (Kd.R_far (p := ⟨ae,0,none⟩) (Kd.R_types ai.out aM.out (by decide)) (fun _ hk => hk.2) (.int .i64 a0)) (fun _ hk => hk.2) (.int .i64 aN)) (fun _ hk => hk.2) (.int .i64 aO)) (fun _ hk => hk.2) (.slice aS ax.length aT)) (fun _ hk => hk.2) (.slice aV ay.length aW)) (fun _ hk => hk.2) (.slice aX az.length aY)) (fun _ hk => hk.2) (.int .i64 1)) (fun _ hk => hk.1)))⟩;have bO : Aside0 (b9.heap[ao]? = some (.cells #[.int .i64 a0,.int .i64 aN,.int .i64 aO,.slice aS ax.length aT,.slice aV ay.length aW,.slice aX az.length aY] 37 (0,0))) := ⟨(by rw [hw];exact (by refine kO ?_;refine blk_far ?_ aE.out _;refine kO ?_;refine blk_far ?_ aE.out _;refine kO ?_;refine blk_far ?_ aE.out _;refine kO ?_;refine blk_far ?_ aE.out _;refine kO ?_;refine blk_far ?_ aE.out _;refine kO ?_;refine blk_far ?_ aE.out _;refine kO ?_;refine blk_far ?_ aE.out _;refine kO ?_;exact aj.out))⟩;have bP : Aside0 (b9.heap[aa]? = some (.cells #[.int .i64 bk,.int .i64 bi,.int .i64 bd,.slice ar am.length au,.slice ap al.length aq,.slice av an.length aw] 37 (0,0))) := ⟨(by rw [hw];exact (by refine kO ?_;refine blk_far ?_ aR.out _;refine kO ?_;refine blk_far ?_ aR.out _;refine kO ?_;refine blk_far ?_ aR.out _;refine kO ?_;refine blk_far ?_ aR.out _;refine kO ?_;refine blk_far ?_ aR.out _;refine kO ?_;refine blk_far ?_ aR.out _;refine kO ?_;refine blk_far ?_ aR.out _;refine kO ?_;exact af.out))⟩;have bQ : Aside0 (b9.heap[ae]? = some (.cells #[.int .i64 1,.int .i64 aN,.int .i64 aO,.slice aS ax.length aT,.slice aV ay.length aW,.slice aX az.length aY] 37 (0,0))) := ⟨(by rw [hw];exact (by refine kO ?_;refine blk_put (cs := #[.int .i64 a0,.int .i64 aN,.int .i64 aO,.slice aS ax.length aT,.slice aV ay.length aW,.slice aX az.length aY]) ?_ 0 _ rfl;refine kO ?_;refine blk_put (cs := #[.int .i64 a0,.int .i64 aN,.int .i64 aO,.slice aS ax.length aT,.slice aV ay.length aW,.slice none 0 0]) ?_ 5 _ rfl;refine kO ?_;refine blk_put (cs := #[.int .i64 a0,.int .i64 aN,.int .i64 aO,.slice aS ax.length aT,.slice none 0 0,.slice none 0 0]) ?_ 4 _ rfl;refine kO ?_;refine blk_put (cs := #[.int .i64 a0,.int .i64 aN,.int .i64 aO,.slice none 0 0,.slice none 0 0,.slice none 0 0]) ?_ 3 _ rfl;refine kO ?_;refine blk_put (cs := #[.int .i64 a0,.int .i64 aN,.int .i64 0,.slice none 0 0,.slice none 0 0,.slice none 0 0]) ?_ 2 _ rfl;refine kO ?_;refine blk_put (cs := #[.int .i64 a0,.int .i64 0,.int .i64 0,.slice none 0 0,.slice none 0 0,.slice none 0 0]) ?_ 1 _ rfl;refine kO ?_;refine blk_put (cs := #[.int .i64 0,.int .i64 0,.int .i64 0,.slice none 0 0,.slice none 0 0,.slice none 0 0]) ?_ 0 _ rfl;refine kO ?_;exact aM.out))⟩;have b7 : Aside0 (Below w.heap.size w b9) := ⟨(by rw [hw];exact (bG HB.out))⟩;clear hw;clear ab;clear ac;clear ad;clear ag;clear ah;clear ai;clear aj;clear af;clear aM;clear HB;have ab := bH;have ac := bI;have ad := bJ;have ag := bK;have ah := bL;have ai := bN;have aj := bO;have af := bP;have aM := bQ;have HB := b7;clear bH bI bJ bK bL bN bO bP bQ b7))
     (try simp only [Act.put,z1_,z2_,z3_])
     go_cut [58] (fun fr wc => ∃ (kq : Nat) (bR : Bool),fr = .bool bR ∧ Aside0 (l33_ManifestBack.j1 kq bR a0 aN aO ax ay az = some r) ∧ Aside0 (kq ≤ kj5) ∧ Aside0 (Kd.V (Kd.int .i64) 3 wc w.heap.size (fun k_ => ((aA k_ ∨ aB k_ ∨ aC k_) ∨ w.heap.size ≤ k_) ∧ some k_ ≠ ((.slice ar am.length au) : Value).ownBlock ∧ some k_ ≠ ((.slice ap al.length aq) : Value).ownBlock ∧ some k_ ≠ ((.slice av an.length aw) : Value).ownBlock ∧ k_ ≠ ao ∧ k_ ≠ aa ∧ k_ ≠ ae) (.slice aS ax.length aT) ax) ∧ Aside0 (Kd.V (Kd.int .i64) 3 wc w.heap.size (fun k_ => ((aA k_ ∨ aB k_ ∨ aC k_) ∨ w.heap.size ≤ k_) ∧ some k_ ≠ ((.slice ar am.length au) : Value).ownBlock ∧ some k_ ≠ ((.slice ap al.length aq) : Value).ownBlock ∧ some k_ ≠ ((.slice av an.length aw) : Value).ownBlock ∧ k_ ≠ ao ∧ k_ ≠ aa ∧ k_ ≠ ae) (.slice aV ay.length aW) ay) ∧ Aside0 (Kd.V Kd.string 9 wc w.heap.size (fun k_ => ((aA k_ ∨ aB k_ ∨ aC k_) ∨ w.heap.size ≤ k_) ∧ some k_ ≠ ((.slice ar am.length au) : Value).ownBlock ∧ some k_ ≠ ((.slice ap al.length aq) : Value).ownBlock ∧ some k_ ≠ ((.slice av an.length aw) : Value).ownBlock ∧ k_ ≠ ao ∧ k_ ≠ aa ∧ k_ ≠ ae) (.slice aX az.length aY) az) ∧ Aside0 (Kd.R (Kd.int .i64) 3 wc w.heap.size (fun k_ => (w.heap.size ≤ k_) ∧ some k_ ≠ ((.slice ap al.length aq) : Value).ownBlock) (.slice ar am.length au) am) ∧ Aside0 (Kd.R (Kd.int .i64) 3 wc w.heap.size (fun k_ => (w.heap.size ≤ k_) ∧ some k_ ≠ ((.slice ar am.length au) : Value).ownBlock) (.slice ap al.length aq) al) ∧ Aside0 (Kd.R Kd.string 9 wc w.heap.size (fun k_ => (w.heap.size ≤ k_)) (.slice av an.length aw) an) ∧ Aside0 (Kd.V (Kd.int .i64) 3 wc w.heap.size (fun k_ => ((aA k_ ∨ aB k_ ∨ aC k_) ∨ w.heap.size ≤ k_) ∧ some k_ ≠ ((.slice ar am.length au) : Value).ownBlock ∧ some k_ ≠ ((.slice ap al.length aq) : Value).ownBlock ∧ some k_ ≠ ((.slice av an.length aw) : Value).ownBlock ∧ k_ ≠ ao ∧ k_ ≠ aa ∧ k_ ≠ ae) (.slice aS ax.length aT) ax) ∧ Aside0 (Kd.V (Kd.int .i64) 3 wc w.heap.size (fun k_ => ((aA k_ ∨ aB k_ ∨ aC k_) ∨ w.heap.size ≤ k_) ∧ some k_ ≠ ((.slice ar am.length au) : Value).ownBlock ∧ some k_ ≠ ((.slice ap al.length aq) : Value).ownBlock ∧ some k_ ≠ ((.slice av an.length aw) : Value).ownBlock ∧ k_ ≠ ao ∧ k_ ≠ aa ∧ k_ ≠ ae) (.slice aV ay.length aW) ay) ∧ Aside0 (Kd.V Kd.string 9 wc w.heap.size (fun k_ => ((aA k_ ∨ aB k_ ∨ aC k_) ∨ w.heap.size ≤ k_) ∧ some k_ ≠ ((.slice ar am.length au) : Value).ownBlock ∧ some k_ ≠ ((.slice ap al.length aq) : Value).ownBlock ∧ some k_ ≠ ((.slice av an.length aw) : Value).ownBlock ∧ k_ ≠ ao ∧ k_ ≠ aa ∧ k_ ≠ ae) (.slice aX az.length aY) az) ∧ Aside0 (wc.heap[ao]? = some (.cells #[.int .i64 a0,.int .i64 aN,.int .i64 aO,(.slice aS ax.length aT),(.slice aV ay.length aW),(.slice aX az.length aY)] 37 (0,0))) ∧ Aside0 (wc.heap[aa]? = some (.cells #[.int .i64 bk,.int .i64 bi,.int .i64 bd,(.slice ar am.length au),(.slice ap al.length aq),(.slice av an.length aw)] 37 (0,0))) ∧ Aside0 (wc.heap[ae]? = some (.cells #[.int .i64 1,.int .i64 aN,.int .i64 aO,(.slice aS ax.length aT),(.slice aV ay.length aW),(.slice aX az.length aY)] 37 (0,0))) ∧ Aside0 (Below w.heap.size w wc))
     case first =>
      have H := db.out
      clear db
      by_cases c34 : (ax.length : Int) > 1000
      ·rw [if_pos c34] at H
       have bT := decide_eq_true c34
       have ca : decide (1000 < ax.length) = true := decide_eq_true (by omega)
       clear c34
       (first|rw [bT]|(simp only [i64_w,i32_w];rw [bT])|rw [ca]|skip)
       have H' := aK H
       clear H
       have ez := ak.out
       have eA := aZ.out
       have eB := aE.out
       have eC := a4.out
       obtain ⟨_,_,_,_,_,_,_,_,_,_,_,_⟩ := bk6_ aj.out
       go_wp2
       go_meet
       case rel => exact ⟨_,(true),(by first|rfl|(simp;done)|(simp [*];done)),H',⟨by have := di.out;first|omega|exact Nat.le_refl _⟩,⟨vM ab.out⟩,⟨vM ac.out⟩,⟨vM ad.out⟩,⟨rM ag.out⟩,⟨rM ah.out⟩,⟨rM ai.out⟩,⟨vM ab.out⟩,⟨vM ac.out⟩,⟨vM ad.out⟩,⟨kM aj.out⟩,⟨kM af.out⟩,⟨kM aM.out⟩,⟨bG HB.out⟩⟩
      ·rw [if_neg c34] at H
       have bT := decide_eq_false c34
       have ca : decide (1000 < ax.length) = false := decide_eq_false (by omega)
       clear c34
       (first|rw [bT]|(simp only [i64_w,i32_w];rw [bT])|rw [ca]|skip)
       by_cases dj : (ay.length : Int) > 1000
       ·rw [if_pos dj] at H
        have dC := decide_eq_true dj
        have dD : decide (1000 < ay.length) = true := decide_eq_true (by omega)
        clear dj
        have H' := aK H
        clear H
        have eD := ak.out
        have eE := aZ.out
        have eF := aE.out
        have eG := a4.out
        obtain ⟨_,_,_,_,_,_,_,_,_,_,_,_⟩ := bk6_ aj.out
        go_wp2
        go_meet
        case rel => exact ⟨_,(true),(by first|rfl|(simp;done)|(simp [*];done)),H',⟨by have := di.out;first|omega|exact Nat.le_refl _⟩,⟨vM ab.out⟩,⟨vM ac.out⟩,⟨vM ad.out⟩,⟨rM ag.out⟩,⟨rM ah.out⟩,⟨rM ai.out⟩,⟨vM ab.out⟩,⟨vM ac.out⟩,⟨vM ad.out⟩,⟨kM aj.out⟩,⟨kM af.out⟩,⟨kM aM.out⟩,⟨bG HB.out⟩⟩
       ·rw [if_neg dj] at H
        have dC := decide_eq_false dj
        have dD : decide (1000 < ay.length) = false := decide_eq_false (by omega)
        clear dj
        by_cases dk : (az.length : Int) > 1000
        ·rw [if_pos dk] at H
         have dE := decide_eq_true dk
         have dF : decide (1000 < az.length) = true := decide_eq_true (by omega)
         clear dk
         have H' := aK H
         clear H
         have eH := ak.out
         have eI := aZ.out
         have eJ := aE.out
         have eK := a4.out
         obtain ⟨_,_,_,_,_,_,_,_,_,_,_,_⟩ := bk6_ aj.out
         go_wp2
         go_meet
         case rel => exact ⟨_,(true),(by first|rfl|(simp;done)|(simp [*];done)),H',⟨by have := di.out;first|omega|exact Nat.le_refl _⟩,⟨vM ab.out⟩,⟨vM ac.out⟩,⟨vM ad.out⟩,⟨rM ag.out⟩,⟨rM ah.out⟩,⟨rM ai.out⟩,⟨vM ab.out⟩,⟨vM ac.out⟩,⟨vM ad.out⟩,⟨kM aj.out⟩,⟨kM af.out⟩,⟨kM aM.out⟩,⟨bG HB.out⟩⟩
        ·rw [if_neg dk] at H
         have dE := decide_eq_false dk
         have dF : decide (1000 < az.length) = false := decide_eq_false (by omega)
         clear dk
         by_cases dl : a0 < 0
         ·rw [if_pos dl] at H
          have dG := decide_eq_true dl
          clear dl
          have H' := aK H
          clear H
          have eL := ak.out
          have eM := aZ.out
          have eN := aE.out
          have eO := a4.out
          obtain ⟨_,_,_,_,_,_,_,_,_,_,_,_⟩ := bk6_ aj.out
          go_wp2
          go_meet
          case rel => exact ⟨_,(true),(by first|rfl|(simp;done)|(simp [*];done)),H',⟨by have := di.out;first|omega|exact Nat.le_refl _⟩,⟨vM ab.out⟩,⟨vM ac.out⟩,⟨vM ad.out⟩,⟨rM ag.out⟩,⟨rM ah.out⟩,⟨rM ai.out⟩,⟨vM ab.out⟩,⟨vM ac.out⟩,⟨vM ad.out⟩,⟨kM aj.out⟩,⟨kM af.out⟩,⟨kM aM.out⟩,⟨bG HB.out⟩⟩
         ·rw [if_neg dl] at H
          have dG := decide_eq_false dl
          clear dl
          by_cases dm : a0 > 4611686018427387904
          ·rw [if_pos dm] at H
           have dH := decide_eq_true dm
           clear dm
           have H' := aK H
           clear H
           have eP := ak.out
           have eQ := aZ.out
           have eR := aE.out
           have eS := a4.out
           obtain ⟨_,_,_,_,_,_,_,_,_,_,_,_⟩ := bk6_ aj.out
           go_wp2
           go_meet
           case rel => exact ⟨_,(true),(by first|rfl|(simp;done)|(simp [*];done)),H',⟨by have := di.out;first|omega|exact Nat.le_refl _⟩,⟨vM ab.out⟩,⟨vM ac.out⟩,⟨vM ad.out⟩,⟨rM ag.out⟩,⟨rM ah.out⟩,⟨rM ai.out⟩,⟨vM ab.out⟩,⟨vM ac.out⟩,⟨vM ad.out⟩,⟨kM aj.out⟩,⟨kM af.out⟩,⟨kM aM.out⟩,⟨bG HB.out⟩⟩
          ·rw [if_neg dm] at H
           have dH := decide_eq_false dm
           clear dm
           obtain ⟨dI,bU⟩ : ∃ y_ : List (S37),y_ = (([(⟨1,aN,aO,ax,ay,az⟩ : S37)] : List (S37))) := ⟨_,rfl⟩
           replace H : ((l33_plain.f kj5 dI).bind fun cW => (l33_ManifestBack.j1 kj5 (!cW) a0 aN aO ax ay az)) = some r := by first|(rw [bU];with_reducible exact H)|(have d1 := (Option.bind_some _ _).symm.trans H;rw [bU];with_reducible exact d1)|(have d1 := (Option.bind_some _ _).symm.trans H;with_reducible exact d1)|with_reducible exact H|(rw [bU];exact H)|exact H
           have cZ := aK bU
           clear bU
           replace H := Option.bind_eq_some_iff.mp H
           obtain ⟨cW,dJ,H⟩ := H
           have fs := aK dJ
           clear dJ
           have H' := aK H
           clear H
           have eT := ak.out
           have eU := aZ.out
           have eV := aE.out
           have eW := a4.out
           obtain ⟨_,_,_,_,_,_,_,_,_,_,_,_⟩ := bk6_ aj.out
           have eX := aF.out
           have eY := aR.out
           obtain ⟨_,_,_,_,_,_,_,_,_,_,_,_⟩ := bk6_ aM.out
           go_wp2_with (first|((with_reducible refine gate_dst (N := 55) rfl ?_);(try (refine gate_guard (by rfl) ?_;dsimp only));refine Kd.N_lit k37 _ 37 ?hg (N' := 55) ?hd (xs := ([(⟨1,aN,aO,ax,ay,az⟩ : S37)] : List (S37))) (inner := [.int .i64 1,.int .i64 aN,.int .i64 aO,.slice aS ax.length aT,.slice aV ay.length aW,.slice aX az.length aY]) (ok := (fun k_ => ((aA k_ ∨ aB k_ ∨ aC k_) ∨ w.heap.size ≤ k_) ∧ some k_ ≠ (.slice ar am.length au : Value).ownBlock ∧ some k_ ≠ (.slice ap al.length aq : Value).ownBlock ∧ some k_ ≠ (.slice av an.length aw : Value).ownBlock ∧ k_ ≠ ao ∧ k_ ≠ aa ∧ k_ ≠ ae)) (okp := (fun k_ => ((aA k_ ∨ aB k_ ∨ aC k_) ∨ w.heap.size ≤ k_) ∧ some k_ ≠ (.slice ar am.length au : Value).ownBlock ∧ some k_ ≠ (.slice ap al.length aq : Value).ownBlock ∧ some k_ ≠ (.slice av an.length aw : Value).ownBlock ∧ k_ ≠ ao ∧ k_ ≠ aa ∧ k_ ≠ ae)) ?hr ?hp (fun _ hk => hk) ((show ∀ k_,b9.heap.size ≤ k_ → (fun k_ => ((aA k_ ∨ aB k_ ∨ aC k_) ∨ w.heap.size ≤ k_) ∧ some k_ ≠ (.slice ar am.length au : Value).ownBlock ∧ some k_ ≠ (.slice ap al.length aq : Value).ownBlock ∧ some k_ ≠ (.slice av an.length aw : Value).ownBlock ∧ k_ ≠ ao ∧ k_ ≠ aa ∧ k_ ≠ ae) k_ from fun k_ hk => ⟨(.inr (Nat.le_trans (below_size (bG HB.out)) hk)),Kd.fresh' (Kd.R_lt (rM ag.out)) k_ hk,Kd.fresh' (Kd.R_lt (rM ah.out)) k_ hk,Kd.fresh' (Kd.R_lt (rM ai.out)) k_ hk,Kd.freshB (g := ao) (o := .cells #[.int .i64 a0,.int .i64 aN,.int .i64 aO,.slice aS ax.length aT,.slice aV ay.length aW,.slice aX az.length aY] 37 (0,0)) (kM aj.out) k_ hk,Kd.freshB (g := aa) (o := .cells #[.int .i64 bk,.int .i64 bi,.int .i64 bd,.slice ar am.length au,.slice ap al.length aq,.slice av an.length aw] 37 (0,0)) (kM af.out) k_ hk,Kd.freshB (g := ae) (o := .cells #[.int .i64 1,.int .i64 aN,.int .i64 aO,.slice aS ax.length aT,.slice aV ay.length aW,.slice aX az.length aY] 37 (0,0)) (kM aM.out) k_ hk⟩) _ (Nat.le_refl _)) (Below.refl _ _) (Nat.le_refl _) (by simp) ?_;(case hd => rfl);(case hg => rfl);(case hr => first|(go_simp;done)|(go_simp;rfl));(case hp => exact (Reps.c6 (show Kd.FK k37 _ _ (⟨1,aN,aO,ax,ay,az⟩ : S37) [.int .i64 1,.int .i64 aN,.int .i64 aO,.slice aS ax.length aT,.slice aV ay.length aW,.slice aX az.length aY] from (k37_mkF _ _ (⟨1,aN,aO,ax,ay,az⟩ : S37) (Kd.V_reads' (Kd.V_mono (ok' := (fun k_ => ((aA k_ ∨ aB k_ ∨ aC k_) ∨ w.heap.size ≤ k_) ∧ some k_ ≠ (.slice ar am.length au : Value).ownBlock ∧ some k_ ≠ (.slice ap al.length aq : Value).ownBlock ∧ some k_ ≠ (.slice av an.length aw : Value).ownBlock ∧ k_ ≠ ao ∧ k_ ≠ aa ∧ k_ ≠ ae)) (ab.out) (fun k_ hk => ⟨hk.1,⟨hk.2.1,⟨hk.2.2.1,⟨hk.2.2.2.1,⟨hk.2.2.2.2.1,⟨hk.2.2.2.2.2.1,hk.2.2.2.2.2.2⟩⟩⟩⟩⟩⟩))).2.1 (Kd.V_F (Kd.V_mono (ok' := (fun k_ => ((aA k_ ∨ aB k_ ∨ aC k_) ∨ w.heap.size ≤ k_) ∧ some k_ ≠ (.slice ar am.length au : Value).ownBlock ∧ some k_ ≠ (.slice ap al.length aq : Value).ownBlock ∧ some k_ ≠ (.slice av an.length aw : Value).ownBlock ∧ k_ ≠ ao ∧ k_ ≠ aa ∧ k_ ≠ ae)) (ab.out) (fun k_ hk => ⟨hk.1,⟨hk.2.1,⟨hk.2.2.1,⟨hk.2.2.2.1,⟨hk.2.2.2.2.1,⟨hk.2.2.2.2.2.1,hk.2.2.2.2.2.2⟩⟩⟩⟩⟩⟩))) (Kd.V_reads' (Kd.V_mono (ok' := (fun k_ => ((aA k_ ∨ aB k_ ∨ aC k_) ∨ w.heap.size ≤ k_) ∧ some k_ ≠ (.slice ar am.length au : Value).ownBlock ∧ some k_ ≠ (.slice ap al.length aq : Value).ownBlock ∧ some k_ ≠ (.slice av an.length aw : Value).ownBlock ∧ k_ ≠ ao ∧ k_ ≠ aa ∧ k_ ≠ ae)) (ac.out) (fun k_ hk => ⟨hk.1,⟨hk.2.1,⟨hk.2.2.1,⟨hk.2.2.2.1,⟨hk.2.2.2.2.1,⟨hk.2.2.2.2.2.1,hk.2.2.2.2.2.2⟩⟩⟩⟩⟩⟩))).2.1 (Kd.V_F (Kd.V_mono (ok' := (fun k_ => ((aA k_ ∨ aB k_ ∨ aC k_) ∨ w.heap.size ≤ k_) ∧ some k_ ≠ (.slice ar am.length au : Value).ownBlock ∧ some k_ ≠ (.slice ap al.length aq : Value).ownBlock ∧ some k_ ≠ (.slice av an.length aw : Value).ownBlock ∧ k_ ≠ ao ∧ k_ ≠ aa ∧ k_ ≠ ae)) (ac.out) (fun k_ hk => ⟨hk.1,⟨hk.2.1,⟨hk.2.2.1,⟨hk.2.2.2.1,⟨hk.2.2.2.2.1,⟨hk.2.2.2.2.2.1,hk.2.2.2.2.2.2⟩⟩⟩⟩⟩⟩))) (Kd.V_reads' (Kd.V_mono (ok' := (fun k_ => ((aA k_ ∨ aB k_ ∨ aC k_) ∨ w.heap.size ≤ k_) ∧ some k_ ≠ (.slice ar am.length au : Value).ownBlock ∧ some k_ ≠ (.slice ap al.length aq : Value).ownBlock ∧ some k_ ≠ (.slice av an.length aw : Value).ownBlock ∧ k_ ≠ ao ∧ k_ ≠ aa ∧ k_ ≠ ae)) (ad.out) (fun k_ hk => ⟨hk.1,⟨hk.2.1,⟨hk.2.2.1,⟨hk.2.2.2.1,⟨hk.2.2.2.2.1,⟨hk.2.2.2.2.2.1,hk.2.2.2.2.2.2⟩⟩⟩⟩⟩⟩))).2.1 (Kd.V_F (Kd.V_mono (ok' := (fun k_ => ((aA k_ ∨ aB k_ ∨ aC k_) ∨ w.heap.size ≤ k_) ∧ some k_ ≠ (.slice ar am.length au : Value).ownBlock ∧ some k_ ≠ (.slice ap al.length aq : Value).ownBlock ∧ some k_ ≠ (.slice av an.length aw : Value).ownBlock ∧ k_ ≠ ao ∧ k_ ≠ aa ∧ k_ ≠ ae)) (ad.out) (fun k_ hk => ⟨hk.1,⟨hk.2.1,⟨hk.2.2.1,⟨hk.2.2.2.1,⟨hk.2.2.2.2.1,⟨hk.2.2.2.2.2.1,hk.2.2.2.2.2.2⟩⟩⟩⟩⟩⟩))))) (Reps.none _ _)));intro ft fB bV hb hg_ hnew_;clear hg_ hnew_;(first|rw [← cZ.out] at bV|(simp only [Int.reduceToNat] at bV;rw [← cZ.out] at bV));replace ab := aK (Kd.V_elder' (vM ab.out) (Kd.N_base bV) hb);replace ac := aK (Kd.V_elder' (vM ac.out) (Kd.N_base bV) hb);replace ad := aK (Kd.V_elder' (vM ad.out) (Kd.N_base bV) hb);replace ag := aK (Kd.R_below (rM ag.out) hb);replace ah := aK (Kd.R_below (rM ah.out) hb);replace ai := aK (Kd.R_below (rM ai.out) hb);have cb := aK (Kd.N_lower bV (below_size (bG HB.out)));replace aj := aK (blk_below (kM aj.out) hb);replace af := aK (blk_below (kM af.out) hb);replace aM := aK (blk_below (kM aM.out) hb);replace HB := aK (below_step (bG HB.out) hb);clear hb bV;obtain ⟨fu,fv,d2⟩ := Kd.N_slice cb.out;subst d2)|(go_at_call 14;(with_reducible refine (l33_plain.calls kj5 _ _ dI cW _ ?bm ?bn fs.out).mono ?_);(case bm => exact cM (Kd.N_reads' cb.out).2.2);(case bn => exact (Kd.N_reads' cb.out).2.1);rintro e w' ⟨rfl,⟨nd,rfl⟩⟩))
           go_meet
           case rel => exact ⟨_,(!cW),(by first|rfl|(simp;done)|(simp [*];done)),H',⟨by have := di.out;first|omega|exact Nat.le_refl _⟩,⟨by (with_reducible repeat (first|apply Kd.V_alloc|apply Kd.V_drewN|apply Kd.V_drew));exact Kd.V_mono ab.out (fun _ hk => by first|exact ⟨hk.1.1,⟨hk.1.2.1,⟨hk.1.2.2.1,⟨hk.1.2.2.2.1,⟨hk.1.2.2.2.2.1,⟨hk.1.2.2.2.2.2.1,hk.1.2.2.2.2.2.2⟩⟩⟩⟩⟩⟩|exact hk.1)⟩,⟨by (with_reducible repeat (first|apply Kd.V_alloc|apply Kd.V_drewN|apply Kd.V_drew));exact Kd.V_mono ac.out (fun _ hk => by first|exact ⟨hk.1.1,⟨hk.1.2.1,⟨hk.1.2.2.1,⟨hk.1.2.2.2.1,⟨hk.1.2.2.2.2.1,⟨hk.1.2.2.2.2.2.1,hk.1.2.2.2.2.2.2⟩⟩⟩⟩⟩⟩|exact hk.1)⟩,⟨by (with_reducible repeat (first|apply Kd.V_alloc|apply Kd.V_drewN|apply Kd.V_drew));exact Kd.V_mono ad.out (fun _ hk => by first|exact ⟨hk.1.1,⟨hk.1.2.1,⟨hk.1.2.2.1,⟨hk.1.2.2.2.1,⟨hk.1.2.2.2.2.1,⟨hk.1.2.2.2.2.2.1,hk.1.2.2.2.2.2.2⟩⟩⟩⟩⟩⟩|exact hk.1)⟩,⟨rM ag.out⟩,⟨rM ah.out⟩,⟨rM ai.out⟩,⟨by (with_reducible repeat (first|apply Kd.V_alloc|apply Kd.V_drewN|apply Kd.V_drew));exact Kd.V_mono ab.out (fun _ hk => by first|exact ⟨hk.1.1,⟨hk.1.2.1,⟨hk.1.2.2.1,⟨hk.1.2.2.2.1,⟨hk.1.2.2.2.2.1,⟨hk.1.2.2.2.2.2.1,hk.1.2.2.2.2.2.2⟩⟩⟩⟩⟩⟩|exact hk.1)⟩,⟨by (with_reducible repeat (first|apply Kd.V_alloc|apply Kd.V_drewN|apply Kd.V_drew));exact Kd.V_mono ac.out (fun _ hk => by first|exact ⟨hk.1.1,⟨hk.1.2.1,⟨hk.1.2.2.1,⟨hk.1.2.2.2.1,⟨hk.1.2.2.2.2.1,⟨hk.1.2.2.2.2.2.1,hk.1.2.2.2.2.2.2⟩⟩⟩⟩⟩⟩|exact hk.1)⟩,⟨by (with_reducible repeat (first|apply Kd.V_alloc|apply Kd.V_drewN|apply Kd.V_drew));exact Kd.V_mono ad.out (fun _ hk => by first|exact ⟨hk.1.1,⟨hk.1.2.1,⟨hk.1.2.2.1,⟨hk.1.2.2.2.1,⟨hk.1.2.2.2.2.1,⟨hk.1.2.2.2.2.2.1,hk.1.2.2.2.2.2.2⟩⟩⟩⟩⟩⟩|exact hk.1)⟩,⟨kM aj.out⟩,⟨kM af.out⟩,⟨kM aM.out⟩,⟨bG HB.out⟩⟩
     case rest =>
      clear db
      try clear p2
      try clear hcv2
      try clear b8
      try clear cY
      try clear dy
      try clear cx
      try clear cy
      try clear cz
      try clear cA
      try clear cB
      try clear cC
      try clear cJ
      try clear cK
      try clear cL
      try clear cN
      try clear cO
      try clear cP
      try clear cD
      try clear cE
      try clear cF
      try clear cG
      try clear cH
      try clear cI
      try clear cQ
      try clear cR
      try clear cS
      try clear cT
      try clear cU
      try clear cV
      try clear p2
      obtain ⟨kq,bR,rfl,HA,fw,ab,ac,ad,ag,ah,ai,aG,aH,aI,aj,af,aM,HB⟩ := hcut
      cases kq with
     |zero => exact absurd HA.out (by simp [l33_ManifestBack.j1])
     |succ kj25 =>
       have H := HA.out
       clear HA
       simp only [l33_ManifestBack.j1] at H
       by_cases dS : bR = true
       ·subst dS
        rw [if_pos rfl] at H
        obtain rfl := Option.some.inj H
        go_wp2
        go_ret
        exact ⟨by first|rfl|(simp [errW_none,errW_some] <;> rfl)|(simp [*,errW_none,errW_some] <;> rfl),bG HB.out⟩
       ·replace dS := Bool.eq_false_iff.mpr dS
        subst dS
        rw [if_neg (show ¬ (false = true) by decide)] at H
        replace H := Option.bind_eq_some_iff.mp H
        obtain ⟨bs,dK,H⟩ := H
        have eZ := aK dK
        clear dK
        replace H := Option.bind_eq_some_iff.mp H
        obtain ⟨⟨aP,aQ,aU,aD,aJ,aL,cX⟩,dL,H⟩ := H
        replace H : (if cX = 0 then ((r33_Same.f kj25 aP aQ aU aD aJ aL a0 aN aO ax ay az).bind fun dc => (some dc)) else (some false)) = some r := H
        have e0 := aK dL
        clear dL
        by_cases dd : cX = 0
        ·rw [if_pos dd] at H
         have dM := beq_iff_eq.mpr dd
         have dN := bne_eq_false_iff_eq.mpr dd
         clear dd
         replace H := Option.bind_eq_some_iff.mp H
         obtain ⟨dc,dO,H⟩ := H
         have fx := aK dO
         clear dO
         obtain rfl := Option.some.inj H
         have e5 := ak.out
         have e6 := aZ.out
         have e7 := aE.out
         have e8 := a4.out
         obtain ⟨_,_,_,_,_,_,_,_,_,_,_,_⟩ := bk6_ aj.out
         go_wp2_with (first|((with_reducible refine gate_callee (f := 19) rfl ?_);refine gL 61 Tryd.func19 #[.agg #[.int .i64 a0,.int .i64 aN,.int .i64 aO,.slice aS ax.length aT,.slice aV ay.length aW,.slice aX az.length aY]] ?_;(with_reducible refine (manifest_Encode.calls kj25 a0 aN aO _ _ ax _ _ ay _ _ az bs _ ?bm ?bn ?bC ?bD ?bE ?bF eZ.out).mono ?_);(case bm => exact cM (Kd.V_reads' ab.out).2.2);(case bn => exact (Kd.V_reads' ab.out).2.1);(case bC => exact cM (Kd.V_reads' ac.out).2.2);(case bD => exact (Kd.V_reads' ac.out).2.1);(case bE => exact cM (Kd.V_reads' ad.out).2.2);(case bF => exact (Kd.V_reads' ad.out).2.1);rintro e fC ⟨d3,rfl,bj,hb⟩;refine ⟨_,rfl,?_⟩;replace ab := aK (Kd.V_elder' (vM ab.out) (Kd.R_base bj) hb);replace ac := aK (Kd.V_elder' (vM ac.out) (Kd.R_base bj) hb);replace ad := aK (Kd.V_elder' (vM ad.out) (Kd.R_base bj) hb);replace ag := aK (Kd.R_below (rM ag.out) hb);replace ah := aK (Kd.R_below (rM ah.out) hb);replace ai := aK (Kd.R_below (rM ai.out) hb);replace aG := aK (Kd.V_elder' (vM aG.out) (Kd.R_base bj) hb);replace aH := aK (Kd.V_elder' (vM aH.out) (Kd.R_base bj) hb);replace aI := aK (Kd.V_elder' (vM aI.out) (Kd.R_base bj) hb);have a8 := aK (Kd.R_lower (Kd.R_newM (M := fun k_ => (w.heap.size ≤ k_)) bj (below_size (bG HB.out)) (fun k_ h_ => h_)) (below_size (bG HB.out)));replace aj := aK (blk_below (kM aj.out) hb);replace af := aK (blk_below (kM af.out) hb);replace aM := aK (blk_below (kM aM.out) hb);replace HB := aK (below_step (bG HB.out) hb);(try clear hb);(try clear hk);(try clear bj);obtain ⟨bW,bX,d4⟩ := Kd.R_slice a8.out;subst d4)|((with_reducible refine gate_callee (f := 18) rfl ?_);refine gL 62 Tryd.func18 #[.slice bW bs.length bX] ?_;(with_reducible refine (manifest_Decode.calls kj25 _ _ bs aP aQ aU aD aJ aL cX _ ?bm ?bn e0.out).mono ?_);(case bm => exact cM (Kd.R_reads' a8.out).2.2);(case bn => exact (Kd.R_reads' a8.out).2.1);rintro e fy ⟨d5,d6,d7,rfl,bj,bz,bB,hb⟩;refine ⟨_,rfl,?_⟩;replace ab := aK (Kd.V_mono (Kd.V_told (Kd.V_told (Kd.V_told (Kd.V_old (vM ab.out) hb) (Kd.R_base bj)) (Kd.R_base bz)) (Kd.R_base bB)) (fun _ h_ => h_.1));replace ac := aK (Kd.V_mono (Kd.V_told (Kd.V_told (Kd.V_told (Kd.V_old (vM ac.out) hb) (Kd.R_base bj)) (Kd.R_base bz)) (Kd.R_base bB)) (fun _ h_ => h_.1));replace ad := aK (Kd.V_mono (Kd.V_told (Kd.V_told (Kd.V_told (Kd.V_old (vM ad.out) hb) (Kd.R_base bj)) (Kd.R_base bz)) (Kd.R_base bB)) (fun _ h_ => h_.1));replace aG := aK (Kd.V_mono (Kd.V_told (Kd.V_told (Kd.V_told (Kd.V_old (vM aG.out) hb) (Kd.R_base bj)) (Kd.R_base bz)) (Kd.R_base bB)) (fun _ h_ => h_.1));replace aH := aK (Kd.V_mono (Kd.V_told (Kd.V_told (Kd.V_told (Kd.V_old (vM aH.out) hb) (Kd.R_base bj)) (Kd.R_base bz)) (Kd.R_base bB)) (fun _ h_ => h_.1));replace aI := aK (Kd.V_mono (Kd.V_told (Kd.V_told (Kd.V_told (Kd.V_old (vM aI.out) hb) (Kd.R_base bj)) (Kd.R_base bz)) (Kd.R_base bB)) (fun _ h_ => h_.1));replace a8 := aK (Kd.R_below (rM a8.out) hb);have bu := aK (Kd.R_lower (Kd.R_new' (Kd.R_new' (Kd.R_newM (M := fun k_ => (w.heap.size ≤ k_)) bj (below_size (bG HB.out)) (fun k_ h_ => h_)) (Kd.R_lt (rM ag.out))) (Kd.R_lt (rM ah.out))) (below_size (bG HB.out)));have bv := aK (Kd.R_lower (Kd.R_new' (Kd.R_new' (Kd.R_newM (M := fun k_ => (w.heap.size ≤ k_)) bz (below_size (bG HB.out)) (fun k_ h_ => h_)) (Kd.R_lt (rM ag.out))) (Kd.R_lt (rM ah.out))) (below_size (bG HB.out)));replace ag := aK (Kd.R_mono (Kd.R_told (Kd.R_told (Kd.R_old (rM ag.out) hb) (Kd.R_base bj)) (Kd.R_base bz)) (fun _ h_ => h_.1));replace ah := aK (Kd.R_mono (Kd.R_told (Kd.R_told (Kd.R_old (rM ah.out) hb) (Kd.R_base bj)) (Kd.R_base bz)) (fun _ h_ => h_.1));have bx := aK (Kd.R_lower (Kd.R_new' (Kd.R_newM (M := fun k_ => (w.heap.size ≤ k_)) bB (below_size (bG HB.out)) (fun k_ h_ => h_)) (Kd.R_lt (rM ai.out))) (below_size (bG HB.out)));replace ai := aK (Kd.R_elder' (rM ai.out) (Kd.R_base bB) hb);replace aj := aK (blk_below (kM aj.out) hb);replace af := aK (blk_below (kM af.out) hb);replace aM := aK (blk_below (kM aM.out) hb);replace HB := aK (below_step (bG HB.out) hb);(try clear hb);(try clear hk);(try clear bj);(try clear bz);(try clear bB);have e9 := aR.out;have fa := aF.out;obtain ⟨_,_,_,_,_,_,_,_,_,_,_,_⟩ := bk6_ af.out;obtain ⟨a9,ba,d8⟩ := Kd.R_slice bu.out;subst d8;obtain ⟨be,bf,d9⟩ := Kd.R_slice bv.out;subst d9;obtain ⟨bo,bp,ea⟩ := Kd.R_slice bx.out;subst ea)|((with_reducible refine gate_store (t := 37) (p := 5) rfl ?_);refine store_event (t := 37) (p := 5) (v := ?eb) (w1 := ((((((fy.setCell ⟨aa,0,none⟩ (.int .i64 aP)).setCell ⟨aa,1,none⟩ (.int .i64 aQ)).setCell ⟨aa,2,none⟩ (.int .i64 aU)).setCell ⟨aa,3,none⟩ (.slice a9 aD.length ba)).setCell ⟨aa,4,none⟩ (.slice be aJ.length bf)).setCell ⟨aa,5,none⟩ (.slice bo aL.length bp))) ?hg ?ho ?hn ?hr ?_;(case ho => rfl);(case hg => rfl);(case hn => rfl);(case hr => first|(go_simp;done)|(go_simp;rfl));intro bY hw;have bH : Aside0 (Kd.V (Kd.int .i64) 3 bY w.heap.size (fun k_ => ((aA k_ ∨ aB k_ ∨ aC k_) ∨ w.heap.size ≤ k_) ∧ some k_ ≠ (.slice ar am.length au : Value).ownBlock ∧ some k_ ≠ (.slice ap al.length aq : Value).ownBlock ∧ some k_ ≠ (.slice av an.length aw : Value).ownBlock ∧ some k_ ≠ (.slice bW bs.length bX : Value).ownBlock ∧ some k_ ≠ (.slice a9 aD.length ba : Value).ownBlock ∧ some k_ ≠ (.slice be aJ.length bf : Value).ownBlock ∧ some k_ ≠ (.slice bo aL.length bp : Value).ownBlock ∧ k_ ≠ ao ∧ k_ ≠ aa ∧ k_ ≠ ae) (.slice aS ax.length aT) ax) := ⟨(by rw [hw];exact (by (with_reducible repeat (first|apply Kd.V_alloc|apply Kd.V_drewN|apply Kd.V_drew));exact Kd.V_mono (Kd.V_far (p := ⟨aa,5,none⟩) (Kd.V_far (p := ⟨aa,4,none⟩) (Kd.V_far (p := ⟨aa,3,none⟩) (Kd.V_far (p := ⟨aa,2,none⟩) (Kd.V_far (p := ⟨aa,1,none⟩) (Kd.V_far (p := ⟨aa,0,none⟩) (Kd.V_mono ab.out (fun k_ hk => (⟨hk,hk.1.1.1.1.2.2.2.2.2.1⟩ : _ ∧ k_ ≠ aa))) (fun _ hk => hk.2) (.int .i64 aP)) (fun _ hk => hk.2) (.int .i64 aQ)) (fun _ hk => hk.2) (.int .i64 aU)) (fun _ hk => hk.2) (.slice a9 aD.length ba)) (fun _ hk => hk.2) (.slice be aJ.length bf)) (fun _ hk => hk.2) (.slice bo aL.length bp)) (fun _ hk => ⟨hk.1.1.1.1.1.1,⟨hk.1.1.1.1.1.2.1,⟨hk.1.1.1.1.1.2.2.1,⟨hk.1.1.1.1.1.2.2.2.1,⟨hk.1.1.1.1.2,⟨hk.1.1.1.2,⟨hk.1.1.2,⟨hk.1.2,⟨hk.1.1.1.1.1.2.2.2.2.1,⟨hk.1.1.1.1.1.2.2.2.2.2.1,hk.1.1.1.1.1.2.2.2.2.2.2⟩⟩⟩⟩⟩⟩⟩⟩⟩⟩)))⟩;have bI : Aside0 (Kd.V (Kd.int .i64) 3 bY w.heap.size (fun k_ => ((aA k_ ∨ aB k_ ∨ aC k_) ∨ w.heap.size ≤ k_) ∧ some k_ ≠ (.slice ar am.length au : Value).ownBlock ∧ some k_ ≠ (.slice ap al.length aq : Value).ownBlock ∧ some k_ ≠ (.slice av an.length aw : Value).ownBlock ∧ some k_ ≠ (.slice bW bs.length bX : Value).ownBlock ∧ some k_ ≠ (.slice a9 aD.length ba : Value).ownBlock ∧ some k_ ≠ (.slice be aJ.length bf : Value).ownBlock ∧ some k_ ≠ (.slice bo aL.length bp : Value).ownBlock ∧ k_ ≠ ao ∧ k_ ≠ aa ∧ k_ ≠ ae) (.slice aV ay.length aW) ay) := ⟨(by rw [hw];exact (by (with_reducible repeat (first|apply Kd.V_alloc|apply Kd.V_drewN|apply Kd.V_drew));exact Kd.V_mono (Kd.V_far (p := ⟨aa,5,none⟩) (Kd.V_far (p := ⟨aa,4,none⟩) (Kd.V_far (p := ⟨aa,3,none⟩) (Kd.V_far (p := ⟨aa,2,none⟩) (Kd.V_far (p := ⟨aa,1,none⟩) (Kd.V_far (p := ⟨aa,0,none⟩) (Kd.V_mono ac.out (fun k_ hk => (⟨hk,hk.1.1.1.1.2.2.2.2.2.1⟩ : _ ∧ k_ ≠ aa))) (fun _ hk => hk.2) (.int .i64 aP)) (fun _ hk => hk.2) (.int .i64 aQ)) (fun _ hk => hk.2) (.int .i64 aU)) (fun _ hk => hk.2) (.slice a9 aD.length ba)) (fun _ hk => hk.2) (.slice be aJ.length bf)) (fun _ hk => hk.2) (.slice bo aL.length bp)) (fun _ hk => ⟨hk.1.1.1.1.1.1,⟨hk.1.1.1.1.1.2.1,⟨hk.1.1.1.1.1.2.2.1,⟨hk.1.1.1.1.1.2.2.2.1,⟨hk.1.1.1.1.2,⟨hk.1.1.1.2,⟨hk.1.1.2,⟨hk.1.2,⟨hk.1.1.1.1.1.2.2.2.2.1,⟨hk.1.1.1.1.1.2.2.2.2.2.1,hk.1.1.1.1.1.2.2.2.2.2.2⟩⟩⟩⟩⟩⟩⟩⟩⟩⟩)))⟩;have bJ : Aside0 (Kd.V Kd.string 9 bY w.heap.size (fun k_ => ((aA k_ ∨ aB k_ ∨ aC k_) ∨ w.heap.size ≤ k_) ∧ some k_ ≠ (.slice ar am.length au : Value).ownBlock ∧ some k_ ≠ (.slice ap al.length aq : Value).ownBlock ∧ some k_ ≠ (.slice av an.length aw : Value).ownBlock ∧ some k_ ≠ (.slice bW bs.length bX : Value).ownBlock ∧ some k_ ≠ (.slice a9 aD.length ba : Value).ownBlock ∧ some k_ ≠ (.slice be aJ.length bf : Value).ownBlock ∧ some k_ ≠ (.slice bo aL.length bp : Value).ownBlock ∧ k_ ≠ ao ∧ k_ ≠ aa ∧ k_ ≠ ae) (.slice aX az.length aY) az) := ⟨(by rw [hw];exact (by (with_reducible repeat (first|apply Kd.V_alloc|apply Kd.V_drewN|apply Kd.V_drew));exact Kd.V_mono (Kd.V_far (p := ⟨aa,5,none⟩) (Kd.V_far (p := ⟨aa,4,none⟩) (Kd.V_far (p := ⟨aa,3,none⟩) (Kd.V_far (p := ⟨aa,2,none⟩) (Kd.V_far (p := ⟨aa,1,none⟩) (Kd.V_far (p := ⟨aa,0,none⟩) (Kd.V_mono ad.out (fun k_ hk => (⟨hk,hk.1.1.1.1.2.2.2.2.2.1⟩ : _ ∧ k_ ≠ aa))) (fun _ hk => hk.2) (.int .i64 aP)) (fun _ hk => hk.2) (.int .i64 aQ)) (fun _ hk => hk.2) (.int .i64 aU)) (fun _ hk => hk.2) (.slice a9 aD.length ba)) (fun _ hk => hk.2) (.slice be aJ.length bf)) (fun _ hk => hk.2) (.slice bo aL.length bp)) (fun _ hk => ⟨hk.1.1.1.1.1.1,⟨hk.1.1.1.1.1.2.1,⟨hk.1.1.1.1.1.2.2.1,⟨hk.1.1.1.1.1.2.2.2.1,⟨hk.1.1.1.1.2,⟨hk.1.1.1.2,⟨hk.1.1.2,⟨hk.1.2,⟨hk.1.1.1.1.1.2.2.2.2.1,⟨hk.1.1.1.1.1.2.2.2.2.2.1,hk.1.1.1.1.1.2.2.2.2.2.2⟩⟩⟩⟩⟩⟩⟩⟩⟩⟩)))⟩;have bK : Aside0 (Kd.R (Kd.int .i64) 3 bY w.heap.size (fun k_ => (w.heap.size ≤ k_) ∧ some k_ ≠ (.slice ap al.length aq : Value).ownBlock ∧ some k_ ≠ (.slice a9 aD.length ba : Value).ownBlock ∧ some k_ ≠ (.slice be aJ.length bf : Value).ownBlock) (.slice ar am.length au) am) := ⟨(by rw [hw];exact (by (with_reducible repeat (first|apply Kd.R_alloc|apply Kd.R_drewN|apply Kd.R_drew));exact Kd.R_mono (Kd.R_far (p := ⟨aa,5,none⟩) (Kd.R_far (p := ⟨aa,4,none⟩) (Kd.R_far (p := ⟨aa,3,none⟩) (Kd.R_far (p := ⟨aa,2,none⟩) (Kd.R_far (p := ⟨aa,1,none⟩) (Kd.R_far (p := ⟨aa,0,none⟩) (Kd.R_types ag.out af.out (by decide)) (fun _ hk => hk.2) (.int .i64 aP)) (fun _ hk => hk.2) (.int .i64 aQ)) (fun _ hk => hk.2) (.int .i64 aU)) (fun _ hk => hk.2) (.slice a9 aD.length ba)) (fun _ hk => hk.2) (.slice be aJ.length bf)) (fun _ hk => hk.2) (.slice bo aL.length bp)) (fun _ hk => ⟨hk.1.1.1.1,⟨hk.1.1.1.2,⟨hk.1.1.2,hk.1.2⟩⟩⟩)))⟩;have bL : Aside0 (Kd.R (Kd.int .i64) 3 bY w.heap.size (fun k_ => (w.heap.size ≤ k_) ∧ some k_ ≠ (.slice ar am.length au : Value).ownBlock ∧ some k_ ≠ (.slice a9 aD.length ba : Value).ownBlock ∧ some k_ ≠ (.slice be aJ.length bf : Value).ownBlock) (.slice ap al.length aq) al) := ⟨(by rw [hw];exact (by (with_reducible repeat (first|apply Kd.R_alloc|apply Kd.R_drewN|apply Kd.R_drew));exact Kd.R_mono (Kd.R_far (p := ⟨aa,5,none⟩) (Kd.R_far (p := ⟨aa,4,none⟩) (Kd.R_far (p := ⟨aa,3,none⟩) (Kd.R_far (p := ⟨aa,2,none⟩) (Kd.R_far (p := ⟨aa,1,none⟩) (Kd.R_far (p := ⟨aa,0,none⟩) (Kd.R_types ah.out af.out (by decide)) (fun _ hk => hk.2) (.int .i64 aP)) (fun _ hk => hk.2) (.int .i64 aQ)) (fun _ hk => hk.2) (.int .i64 aU)) (fun _ hk => hk.2) (.slice a9 aD.length ba)) (fun _ hk => hk.2) (.slice be aJ.length bf)) (fun _ hk => hk.2) (.slice bo aL.length bp)) (fun _ hk => ⟨hk.1.1.1.1,⟨hk.1.1.1.2,⟨hk.1.1.2,hk.1.2⟩⟩⟩)))⟩;have bN : Aside0 (Kd.R Kd.string 9 bY w.heap.size (fun k_ => (w.heap.size ≤ k_) ∧ some k_ ≠ (.slice bo aL.length bp : Value).ownBlock) (.slice av an.length aw) an) := ⟨(by rw [hw];exact (by (with_reducible repeat (first|apply Kd.R_alloc|apply Kd.R_drewN|apply Kd.R_drew));exact Kd.R_mono (Kd.R_far (p := ⟨aa,5,none⟩) (Kd.R_far (p := ⟨aa,4,none⟩) (Kd.R_far (p := ⟨aa,3,none⟩) (Kd.R_far (p := ⟨aa,2,none⟩) (Kd.R_far (p := ⟨aa,1,none⟩) (Kd.R_far (p := ⟨aa,0,none⟩) (Kd.R_types ai.out af.out (by decide)) (fun _ hk => hk.2) (.int .i64 aP)) (fun _ hk => hk.2) (.int .i64 aQ)) (fun _ hk => hk.2) (.int .i64 aU)) (fun _ hk => hk.2) (.slice a9 aD.length ba)) (fun _ hk => hk.2) (.slice be aJ.length bf)) (fun _ hk => hk.2) (.slice bo aL.length bp)) (fun _ hk => ⟨hk.1.1,hk.1.2⟩)))⟩;have bO : Aside0 (Kd.V (Kd.int .i64) 3 bY w.heap.size (fun k_ => ((aA k_ ∨ aB k_ ∨ aC k_) ∨ w.heap.size ≤ k_) ∧ some k_ ≠ (.slice ar am.length au : Value).ownBlock ∧ some k_ ≠ (.slice ap al.length aq : Value).ownBlock ∧ some k_ ≠ (.slice av an.length aw : Value).ownBlock ∧ some k_ ≠ (.slice bW bs.length bX : Value).ownBlock ∧ some k_ ≠ (.slice a9 aD.length ba : Value).ownBlock ∧ some k_ ≠ (.slice be aJ.length bf : Value).ownBlock ∧ some k_ ≠ (.slice bo aL.length bp : Value).ownBlock ∧ k_ ≠ ao ∧ k_ ≠ aa ∧ k_ ≠ ae) (.slice aS ax.length aT) ax) := ⟨(by rw [hw];exact (by (with_reducible repeat (first|apply Kd.V_alloc|apply Kd.V_drewN|apply Kd.V_drew));exact Kd.V_mono (Kd.V_far (p := ⟨aa,5,none⟩) (Kd.V_far (p := ⟨aa,4,none⟩) (Kd.V_far (p := ⟨aa,3,none⟩) (Kd.V_far (p := ⟨aa,2,none⟩) (Kd.V_far (p := ⟨aa,1,none⟩) (Kd.V_far (p := ⟨aa,0,none⟩) (Kd.V_mono aG.out (fun k_ hk => (⟨hk,hk.1.1.1.1.2.2.2.2.2.1⟩ : _ ∧ k_ ≠ aa))) (fun _ hk => hk.2) (.int .i64 aP)) (fun _ hk => hk.2) (.int .i64 aQ)) (fun _ hk => hk.2) (.int .i64 aU)) (fun _ hk => hk.2) (.slice a9 aD.length ba)) (fun _ hk => hk.2) (.slice be aJ.length bf)) (fun _ hk => hk.2) (.slice bo aL.length bp)) (fun _ hk => ⟨hk.1.1.1.1.1.1,⟨hk.1.1.1.1.1.2.1,⟨hk.1.1.1.1.1.2.2.1,⟨hk.1.1.1.1.1.2.2.2.1,⟨hk.1.1.1.1.2,⟨hk.1.1.1.2,⟨hk.1.1.2,⟨hk.1.2,⟨hk.1.1.1.1.1.2.2.2.2.1,⟨hk.1.1.1.1.1.2.2.2.2.2.1,hk.1.1.1.1.1.2.2.2.2.2.2⟩⟩⟩⟩⟩⟩⟩⟩⟩⟩)))⟩;have bP : Aside0 (Kd.V (Kd.int .i64) 3 bY w.heap.size (fun k_ => ((aA k_ ∨ aB k_ ∨ aC k_) ∨ w.heap.size ≤ k_) ∧ some k_ ≠ (.slice ar am.length au : Value).ownBlock ∧ some k_ ≠ (.slice ap al.length aq : Value).ownBlock ∧ some k_ ≠ (.slice av an.length aw : Value).ownBlock ∧ some k_ ≠ (.slice bW bs.length bX : Value).ownBlock ∧ some k_ ≠ (.slice a9 aD.length ba : Value).ownBlock ∧ some k_ ≠ (.slice be aJ.length bf : Value).ownBlock ∧ some k_ ≠ (.slice bo aL.length bp : Value).ownBlock ∧ k_ ≠ ao ∧ k_ ≠ aa ∧ k_ ≠ ae) (.slice aV ay.length aW) ay) := ⟨(by rw [hw];exact (by (with_reducible repeat (first|apply Kd.V_alloc|apply Kd.V_drewN|apply Kd.V_drew));exact Kd.V_mono (Kd.V_far (p := ⟨aa,5,none⟩) (Kd.V_far (p := ⟨aa,4,none⟩) (Kd.V_far (p := ⟨aa,3,none⟩) (Kd.V_far (p := ⟨aa,2,none⟩) (Kd.V_far (p := ⟨aa,1,none⟩) (Kd.V_far (p := ⟨aa,0,none⟩) (Kd.V_mono aH.out (fun k_ hk => (⟨hk,hk.1.1.1.1.2.2.2.2.2.1⟩ : _ ∧ k_ ≠ aa))) (fun _ hk => hk.2) (.int .i64 aP)) (fun _ hk => hk.2) (.int .i64 aQ)) (fun _ hk => hk.2) (.int .i64 aU)) (fun _ hk => hk.2) (.slice a9 aD.length ba)) (fun _ hk => hk.2) (.slice be aJ.length bf)) (fun _ hk => hk.2) (.slice bo aL.length bp)) (fun _ hk => ⟨hk.1.1.1.1.1.1,⟨hk.1.1.1.1.1.2.1,⟨hk.1.1.1.1.1.2.2.1,⟨hk.1.1.1.1.1.2.2.2.1,⟨hk.1.1.1.1.2,⟨hk.1.1.1.2,⟨hk.1.1.2,⟨hk.1.2,⟨hk.1.1.1.1.1.2.2.2.2.1,⟨hk.1.1.1.1.1.2.2.2.2.2.1,hk.1.1.1.1.1.2.2.2.2.2.2⟩⟩⟩⟩⟩⟩⟩⟩⟩⟩)))⟩;have bQ : Aside0 (Kd.V Kd.string 9 bY w.heap.size (fun k_ => ((aA k_ ∨ aB k_ ∨ aC k_) ∨ w.heap.size ≤ k_) ∧ some k_ ≠ (.slice ar am.length au : Value).ownBlock ∧ some k_ ≠ (.slice ap al.length aq : Value).ownBlock ∧ some k_ ≠ (.slice av an.length aw : Value).ownBlock ∧ some k_ ≠ (.slice bW bs.length bX : Value).ownBlock ∧ some k_ ≠ (.slice a9 aD.length ba : Value).ownBlock ∧ some k_ ≠ (.slice be aJ.length bf : Value).ownBlock ∧ some k_ ≠ (.slice bo aL.length bp : Value).ownBlock ∧ k_ ≠ ao ∧ k_ ≠ aa ∧ k_ ≠ ae) (.slice aX az.length aY) az) := ⟨(by rw [hw];exact (by (with_reducible repeat (first|apply Kd.V_alloc|apply Kd.V_drewN|apply Kd.V_drew));exact Kd.V_mono (Kd.V_far (p := ⟨aa,5,none⟩) (Kd.V_far (p := ⟨aa,4,none⟩) (Kd.V_far (p := ⟨aa,3,none⟩) (Kd.V_far (p := ⟨aa,2,none⟩) (Kd.V_far (p := ⟨aa,1,none⟩) (Kd.V_far (p := ⟨aa,0,none⟩) (Kd.V_mono aI.out (fun k_ hk => (⟨hk,hk.1.1.1.1.2.2.2.2.2.1⟩ : _ ∧ k_ ≠ aa))) (fun _ hk => hk.2) (.int .i64 aP)) (fun _ hk => hk.2) (.int .i64 aQ)) (fun _ hk => hk.2) (.int .i64 aU)) (fun _ hk => hk.2) (.slice a9 aD.length ba)) (fun _ hk => hk.2) (.slice be aJ.length bf)) (fun _ hk => hk.2) (.slice bo aL.length bp)) (fun _ hk => ⟨hk.1.1.1.1.1.1,⟨hk.1.1.1.1.1.2.1,⟨hk.1.1.1.1.1.2.2.1,⟨hk.1.1.1.1.1.2.2.2.1,⟨hk.1.1.1.1.2,⟨hk.1.1.1.2,⟨hk.1.1.2,⟨hk.1.2,⟨hk.1.1.1.1.1.2.2.2.2.1,⟨hk.1.1.1.1.1.2.2.2.2.2.1,hk.1.1.1.1.1.2.2.2.2.2.2⟩⟩⟩⟩⟩⟩⟩⟩⟩⟩)))⟩;have b7 : Aside0 (Kd.R (Kd.int .u8) 5 bY w.heap.size (fun k_ => (w.heap.size ≤ k_)) (.slice bW bs.length bX) bs) := ⟨(by rw [hw];exact (by (with_reducible repeat (first|apply Kd.R_alloc|apply Kd.R_drewN|apply Kd.R_drew));exact Kd.R_mono (Kd.R_far (p := ⟨aa,5,none⟩) (Kd.R_far (p := ⟨aa,4,none⟩) (Kd.R_far (p := ⟨aa,3,none⟩) (Kd.R_far (p := ⟨aa,2,none⟩) (Kd.R_far (p := ⟨aa,1,none⟩) (Kd.R_far (p := ⟨aa,0,none⟩) (Kd.R_types a8.out af.out (by decide)) (fun _ hk => hk.2) (.int .i64 aP)) (fun _ hk => hk.2) (.int .i64 aQ)) (fun _ hk => hk.2) (.int .i64 aU)) (fun _ hk => hk.2) (.slice a9 aD.length ba)) (fun _ hk => hk.2) (.slice be aJ.length bf)) (fun _ hk => hk.2) (.slice bo aL.length bp)) (fun _ hk => hk.1.1)))⟩;have cc : Aside0 (Kd.R (Kd.int .i64) 3 bY w.heap.size (fun k_ => (w.heap.size ≤ k_) ∧ some k_ ≠ (.slice ar am.length au : Value).ownBlock ∧ some k_ ≠ (.slice ap al.length aq : Value).ownBlock ∧ some k_ ≠ (.slice be aJ.length bf : Value).ownBlock) (.slice a9 aD.length ba) aD) := ⟨(by rw [hw];exact (by (with_reducible repeat (first|apply Kd.R_alloc|apply Kd.R_drewN|apply Kd.R_drew));exact Kd.R_mono (Kd.R_far (p := ⟨aa,5,none⟩) (Kd.R_far (p := ⟨aa,4,none⟩) (Kd.R_far (p := ⟨aa,3,none⟩) (Kd.R_far (p := ⟨aa,2,none⟩) (Kd.R_far (p := ⟨aa,1,none⟩) (Kd.R_far (p := ⟨aa,0,none⟩) (Kd.R_types bu.out af.out (by decide)) (fun _ hk => hk.2) (.int .i64 aP)) (fun _ hk => hk.2) (.int .i64 aQ)) (fun _ hk => hk.2) (.int .i64 aU)) (fun _ hk => hk.2) (.slice a9 aD.length ba)) (fun _ hk => hk.2) (.slice be aJ.length bf)) (fun _ hk => hk.2) (.slice bo aL.length bp)) (fun _ hk => ⟨hk.1.1.1.1,⟨hk.1.1.2,⟨hk.1.2,hk.1.1.1.2⟩⟩⟩)))⟩;have cd : Aside0 (Kd.R (Kd.int .i64) 3 bY w.heap.size (fun k_ => (w.heap.size ≤ k_) ∧ some k_ ≠ (.slice ar am.length au : Value).ownBlock ∧ some k_ ≠ (.slice ap al.length aq : Value).ownBlock ∧ some k_ ≠ (.slice a9 aD.length ba : Value).ownBlock) (.slice be aJ.length bf) aJ) := ⟨(by rw [hw];exact (by (with_reducible repeat (first|apply Kd.R_alloc|apply Kd.R_drewN|apply Kd.R_drew));exact Kd.R_mono (Kd.R_far (p := ⟨aa,5,none⟩) (Kd.R_far (p := ⟨aa,4,none⟩) (Kd.R_far (p := ⟨aa,3,none⟩) (Kd.R_far (p := ⟨aa,2,none⟩) (Kd.R_far (p := ⟨aa,1,none⟩) (Kd.R_far (p := ⟨aa,0,none⟩) (Kd.R_types bv.out af.out (by decide)) (fun _ hk => hk.2) (.int .i64 aP)) (fun _ hk => hk.2) (.int .i64 aQ)) (fun _ hk => hk.2) (.int .i64 aU)) (fun _ hk => hk.2) (.slice a9 aD.length ba)) (fun _ hk => hk.2) (.slice be aJ.length bf)) (fun _ hk => hk.2) (.slice bo aL.length bp)) (fun _ hk => ⟨hk.1.1.1.1,⟨hk.1.1.2,⟨hk.1.2,hk.1.1.1.2⟩⟩⟩)))⟩;have ce : Aside0 (Kd.R Kd.string 9 bY w.heap.size (fun k_ => (w.heap.size ≤ k_) ∧ some k_ ≠ (.slice av an.length aw : Value).ownBlock) (.slice bo aL.length bp) aL) := ⟨(by rw [hw];exact (by (with_reducible repeat (first|apply Kd.R_alloc|apply Kd.R_drewN|apply Kd.R_drew));exact Kd.R_mono (Kd.R_far (p := ⟨aa,5,none⟩) (Kd.R_far (p := ⟨aa,4,none⟩) (Kd.R_far (p := ⟨aa,3,none⟩) (Kd.R_far (p := ⟨aa,2,none⟩) (Kd.R_far (p := ⟨aa,1,none⟩) (Kd.R_far (p := ⟨aa,0,none⟩) (Kd.R_types bx.out af.out (by decide)) (fun _ hk => hk.2) (.int .i64 aP)) (fun _ hk => hk.2) (.int .i64 aQ)) (fun _ hk => hk.2) (.int .i64 aU)) (fun _ hk => hk.2) (.slice a9 aD.length ba)) (fun _ hk => hk.2) (.slice be aJ.length bf)) (fun _ hk => hk.2) (.slice bo aL.length bp)) (fun _ hk => ⟨hk.1.1.1,hk.1.2⟩)))⟩;have cf : Aside0 (bY.heap[ao]? = some (.cells #[.int .i64 a0,.int .i64 aN,.int .i64 aO,.slice aS ax.length aT,.slice aV ay.length aW,.slice aX az.length aY] 37 (0,0))) := ⟨(by rw [hw];exact (by refine kO ?_;refine blk_far ?_ ak.out _;refine kO ?_;refine blk_far ?_ ak.out _;refine kO ?_;refine blk_far ?_ ak.out _;refine kO ?_;refine blk_far ?_ ak.out _;refine kO ?_;refine blk_far ?_ ak.out _;refine kO ?_;refine blk_far ?_ ak.out _;refine kO ?_;exact aj.out))⟩;have cg : Aside0 (bY.heap[aa]? = some (.cells #[.int .i64 aP,.int .i64 aQ,.int .i64 aU,.slice a9 aD.length ba,.slice be aJ.length bf,.slice bo aL.length bp] 37 (0,0))) := ⟨(by rw [hw];exact (by refine kO ?_;refine blk_put (cs := #[.int .i64 aP,.int .i64 aQ,.int .i64 aU,.slice a9 aD.length ba,.slice be aJ.length bf,.slice av an.length aw]) ?_ 5 _ rfl;refine kO ?_;refine blk_put (cs := #[.int .i64 aP,.int .i64 aQ,.int .i64 aU,.slice a9 aD.length ba,.slice ap al.length aq,.slice av an.length aw]) ?_ 4 _ rfl;refine kO ?_;refine blk_put (cs := #[.int .i64 aP,.int .i64 aQ,.int .i64 aU,.slice ar am.length au,.slice ap al.length aq,.slice av an.length aw]) ?_ 3 _ rfl;refine kO ?_;refine blk_put (cs := #[.int .i64 aP,.int .i64 aQ,.int .i64 bd,.slice ar am.length au,.slice ap al.length aq,.slice av an.length aw]) ?_ 2 _ rfl;refine kO ?_;refine blk_put (cs := #[.int .i64 aP,.int .i64 bi,.int .i64 bd,.slice ar am.length au,.slice ap al.length aq,.slice av an.length aw]) ?_ 1 _ rfl;refine kO ?_;refine blk_put (cs := #[.int .i64 bk,.int .i64 bi,.int .i64 bd,.slice ar am.length au,.slice ap al.length aq,.slice av an.length aw]) ?_ 0 _ rfl;refine kO ?_;exact af.out))⟩;have ch : Aside0 (bY.heap[ae]? = some (.cells #[.int .i64 1,.int .i64 aN,.int .i64 aO,.slice aS ax.length aT,.slice aV ay.length aW,.slice aX az.length aY] 37 (0,0))) := ⟨(by rw [hw];exact (by refine kO ?_;refine blk_far ?_ aF.out _;refine kO ?_;refine blk_far ?_ aF.out _;refine kO ?_;refine blk_far ?_ aF.out _;refine kO ?_;refine blk_far ?_ aF.out _;refine kO ?_;refine blk_far ?_ aF.out _;refine kO ?_;refine blk_far ?_ aF.out _;refine kO ?_;exact aM.out))⟩;have ci : Aside0 (Below w.heap.size w bY) := ⟨(by rw [hw];exact (bG HB.out))⟩;clear hw;clear ab;clear ac;clear ad;clear ag;clear ah;clear ai;clear aG;clear aH;clear aI;clear a8;clear bu;clear bv;clear bx;clear aj;clear af;clear aM;clear HB;have ab := bH;have ac := bI;have ad := bJ;have ag := bK;have ah := bL;have ai := bN;have aG := bO;have aH := bP;have aI := bQ;have a8 := b7;have bu := cc;have bv := cd;have bx := ce;have aj := cf;have af := cg;have aM := ch;have HB := ci;clear bH bI bJ bK bL bN bO bP bQ b7 cc cd ce cf cg ch ci;obtain ⟨_,_,_,_,_,_,_,_,_,_,_,_⟩ := bk6_ af.out;obtain ⟨_,_,_,_,_,_,_,_,_,_,_,_⟩ := bk6_ aj.out)|(go_at_call 20;(with_reducible refine (r33_Same.calls kj25 aP aQ aU _ _ aD _ _ aJ _ _ aL a0 aN aO _ _ ax _ _ ay _ _ az dc _ ?bm ?bn ?bC ?bD ?bE ?bF ?dP ?dQ ?dR ?de ?df ?dg fx.out).mono ?_);(case bm => exact cM (Kd.R_reads' bu.out).2.2);(case bn => exact (Kd.R_reads' bu.out).2.1);(case bC => exact cM (Kd.R_reads' bv.out).2.2);(case bD => exact (Kd.R_reads' bv.out).2.1);(case bE => exact cM (Kd.R_reads' bx.out).2.2);(case bF => exact (Kd.R_reads' bx.out).2.1);(case dP => exact cM (Kd.V_reads' ab.out).2.2);(case dQ => exact (Kd.V_reads' ab.out).2.1);(case dR => exact cM (Kd.V_reads' ac.out).2.2);(case de => exact (Kd.V_reads' ac.out).2.1);(case df => exact cM (Kd.V_reads' ad.out).2.2);(case dg => exact (Kd.V_reads' ad.out).2.1);rintro e fD ⟨rfl,hb⟩;replace ab := aK (Kd.V_below (vM ab.out) hb);replace ac := aK (Kd.V_below (vM ac.out) hb);replace ad := aK (Kd.V_below (vM ad.out) hb);replace ag := aK (Kd.R_below (rM ag.out) hb);replace ah := aK (Kd.R_below (rM ah.out) hb);replace ai := aK (Kd.R_below (rM ai.out) hb);replace aG := aK (Kd.V_below (vM aG.out) hb);replace aH := aK (Kd.V_below (vM aH.out) hb);replace aI := aK (Kd.V_below (vM aI.out) hb);replace a8 := aK (Kd.R_below (rM a8.out) hb);replace bu := aK (Kd.R_below (rM bu.out) hb);replace bv := aK (Kd.R_below (rM bv.out) hb);replace bx := aK (Kd.R_below (rM bx.out) hb);replace aj := aK (blk_below (kM aj.out) hb);replace af := aK (blk_below (kM af.out) hb);replace aM := aK (blk_below (kM aM.out) hb);replace HB := aK (below_step (bG HB.out) hb);(try clear hb);(try clear hk)))
         go_ret
         exact ⟨by first|rfl|(simp [errW_none,errW_some] <;> rfl)|(simp [*,errW_none,errW_some] <;> rfl),bG HB.out⟩
        ·rw [if_neg dd] at H
         have dM := beq_eq_false_iff_ne.mpr dd
         have dN := bne_iff_ne.mpr dd
         obtain rfl := Option.some.inj H
         have fb := ak.out
         have fc := aZ.out
         have fd := aE.out
         have fe := a4.out
         obtain ⟨_,_,_,_,_,_,_,_,_,_,_,_⟩ := bk6_ aj.out
         go_wp2_with (first|((with_reducible refine gate_callee (f := 19) rfl ?_);refine gL 61 Tryd.func19 #[.agg #[.int .i64 a0,.int .i64 aN,.int .i64 aO,.slice aS ax.length aT,.slice aV ay.length aW,.slice aX az.length aY]] ?_;(with_reducible refine (manifest_Encode.calls kj25 a0 aN aO _ _ ax _ _ ay _ _ az bs _ ?bm ?bn ?bC ?bD ?bE ?bF eZ.out).mono ?_);(case bm => exact cM (Kd.V_reads' ab.out).2.2);(case bn => exact (Kd.V_reads' ab.out).2.1);(case bC => exact cM (Kd.V_reads' ac.out).2.2);(case bD => exact (Kd.V_reads' ac.out).2.1);(case bE => exact cM (Kd.V_reads' ad.out).2.2);(case bF => exact (Kd.V_reads' ad.out).2.1);rintro e fE ⟨d3,rfl,bj,hb⟩;refine ⟨_,rfl,?_⟩;replace ab := aK (Kd.V_elder' (vM ab.out) (Kd.R_base bj) hb);replace ac := aK (Kd.V_elder' (vM ac.out) (Kd.R_base bj) hb);replace ad := aK (Kd.V_elder' (vM ad.out) (Kd.R_base bj) hb);replace ag := aK (Kd.R_below (rM ag.out) hb);replace ah := aK (Kd.R_below (rM ah.out) hb);replace ai := aK (Kd.R_below (rM ai.out) hb);replace aG := aK (Kd.V_elder' (vM aG.out) (Kd.R_base bj) hb);replace aH := aK (Kd.V_elder' (vM aH.out) (Kd.R_base bj) hb);replace aI := aK (Kd.V_elder' (vM aI.out) (Kd.R_base bj) hb);have a8 := aK (Kd.R_lower (Kd.R_newM (M := fun k_ => (w.heap.size ≤ k_)) bj (below_size (bG HB.out)) (fun k_ h_ => h_)) (below_size (bG HB.out)));replace aj := aK (blk_below (kM aj.out) hb);replace af := aK (blk_below (kM af.out) hb);replace aM := aK (blk_below (kM aM.out) hb);replace HB := aK (below_step (bG HB.out) hb);(try clear hb);(try clear hk);(try clear bj);obtain ⟨bZ,b0,ec⟩ := Kd.R_slice a8.out;subst ec)|((with_reducible refine gate_callee (f := 18) rfl ?_);refine gL 62 Tryd.func18 #[.slice bZ bs.length b0] ?_;(with_reducible refine (manifest_Decode.calls kj25 _ _ bs aP aQ aU aD aJ aL cX _ ?bm ?bn e0.out).mono ?_);(case bm => exact cM (Kd.R_reads' a8.out).2.2);(case bn => exact (Kd.R_reads' a8.out).2.1);rintro e fz ⟨d5,d6,d7,rfl,bj,bz,bB,hb⟩;refine ⟨_,rfl,?_⟩;replace ab := aK (Kd.V_mono (Kd.V_told (Kd.V_told (Kd.V_told (Kd.V_old (vM ab.out) hb) (Kd.R_base bj)) (Kd.R_base bz)) (Kd.R_base bB)) (fun _ h_ => h_.1));replace ac := aK (Kd.V_mono (Kd.V_told (Kd.V_told (Kd.V_told (Kd.V_old (vM ac.out) hb) (Kd.R_base bj)) (Kd.R_base bz)) (Kd.R_base bB)) (fun _ h_ => h_.1));replace ad := aK (Kd.V_mono (Kd.V_told (Kd.V_told (Kd.V_told (Kd.V_old (vM ad.out) hb) (Kd.R_base bj)) (Kd.R_base bz)) (Kd.R_base bB)) (fun _ h_ => h_.1));replace aG := aK (Kd.V_mono (Kd.V_told (Kd.V_told (Kd.V_told (Kd.V_old (vM aG.out) hb) (Kd.R_base bj)) (Kd.R_base bz)) (Kd.R_base bB)) (fun _ h_ => h_.1));replace aH := aK (Kd.V_mono (Kd.V_told (Kd.V_told (Kd.V_told (Kd.V_old (vM aH.out) hb) (Kd.R_base bj)) (Kd.R_base bz)) (Kd.R_base bB)) (fun _ h_ => h_.1));replace aI := aK (Kd.V_mono (Kd.V_told (Kd.V_told (Kd.V_told (Kd.V_old (vM aI.out) hb) (Kd.R_base bj)) (Kd.R_base bz)) (Kd.R_base bB)) (fun _ h_ => h_.1));replace a8 := aK (Kd.R_below (rM a8.out) hb);have bu := aK (Kd.R_lower (Kd.R_new' (Kd.R_new' (Kd.R_newM (M := fun k_ => (w.heap.size ≤ k_)) bj (below_size (bG HB.out)) (fun k_ h_ => h_)) (Kd.R_lt (rM ag.out))) (Kd.R_lt (rM ah.out))) (below_size (bG HB.out)));have bv := aK (Kd.R_lower (Kd.R_new' (Kd.R_new' (Kd.R_newM (M := fun k_ => (w.heap.size ≤ k_)) bz (below_size (bG HB.out)) (fun k_ h_ => h_)) (Kd.R_lt (rM ag.out))) (Kd.R_lt (rM ah.out))) (below_size (bG HB.out)));replace ag := aK (Kd.R_mono (Kd.R_told (Kd.R_told (Kd.R_old (rM ag.out) hb) (Kd.R_base bj)) (Kd.R_base bz)) (fun _ h_ => h_.1));replace ah := aK (Kd.R_mono (Kd.R_told (Kd.R_told (Kd.R_old (rM ah.out) hb) (Kd.R_base bj)) (Kd.R_base bz)) (fun _ h_ => h_.1));have bx := aK (Kd.R_lower (Kd.R_new' (Kd.R_newM (M := fun k_ => (w.heap.size ≤ k_)) bB (below_size (bG HB.out)) (fun k_ h_ => h_)) (Kd.R_lt (rM ai.out))) (below_size (bG HB.out)));replace ai := aK (Kd.R_elder' (rM ai.out) (Kd.R_base bB) hb);replace aj := aK (blk_below (kM aj.out) hb);replace af := aK (blk_below (kM af.out) hb);replace aM := aK (blk_below (kM aM.out) hb);replace HB := aK (below_step (bG HB.out) hb);(try clear hb);(try clear hk);(try clear bj);(try clear bz);(try clear bB);have ff := aR.out;have fg := aF.out;obtain ⟨_,_,_,_,_,_,_,_,_,_,_,_⟩ := bk6_ af.out;obtain ⟨bb,bc,ed⟩ := Kd.R_slice bu.out;subst ed;obtain ⟨bg,bh,ee⟩ := Kd.R_slice bv.out;subst ee;obtain ⟨bq,br,ef⟩ := Kd.R_slice bx.out;subst ef)|((with_reducible refine gate_store (t := 37) (p := 5) rfl ?_);refine store_event (t := 37) (p := 5) (v := ?eg) (w1 := ((((((fz.setCell ⟨aa,0,none⟩ (.int .i64 aP)).setCell ⟨aa,1,none⟩ (.int .i64 aQ)).setCell ⟨aa,2,none⟩ (.int .i64 aU)).setCell ⟨aa,3,none⟩ (.slice bb aD.length bc)).setCell ⟨aa,4,none⟩ (.slice bg aJ.length bh)).setCell ⟨aa,5,none⟩ (.slice bq aL.length br))) ?hg ?ho ?hn ?hr ?_;(case ho => rfl);(case hg => rfl);(case hn => rfl);(case hr => first|(go_simp;done)|(go_simp;rfl));intro b1 hw;have bH : Aside0 (Kd.V (Kd.int .i64) 3 b1 w.heap.size (fun k_ => ((aA k_ ∨ aB k_ ∨ aC k_) ∨ w.heap.size ≤ k_) ∧ some k_ ≠ (.slice ar am.length au : Value).ownBlock ∧ some k_ ≠ (.slice ap al.length aq : Value).ownBlock ∧ some k_ ≠ (.slice av an.length aw : Value).ownBlock ∧ some k_ ≠ (.slice bZ bs.length b0 : Value).ownBlock ∧ some k_ ≠ (.slice bb aD.length bc : Value).ownBlock ∧ some k_ ≠ (.slice bg aJ.length bh : Value).ownBlock ∧ some k_ ≠ (.slice bq aL.length br : Value).ownBlock ∧ k_ ≠ ao ∧ k_ ≠ aa ∧ k_ ≠ ae) (.slice aS ax.length aT) ax) := ⟨(by rw [hw];exact (by (with_reducible repeat (first|apply Kd.V_alloc|apply Kd.V_drewN|apply Kd.V_drew));exact Kd.V_mono (Kd.V_far (p := ⟨aa,5,none⟩) (Kd.V_far (p := ⟨aa,4,none⟩) (Kd.V_far (p := ⟨aa,3,none⟩) (Kd.V_far (p := ⟨aa,2,none⟩) (Kd.V_far (p := ⟨aa,1,none⟩) (Kd.V_far (p := ⟨aa,0,none⟩) (Kd.V_mono ab.out (fun k_ hk => (⟨hk,hk.1.1.1.1.2.2.2.2.2.1⟩ : _ ∧ k_ ≠ aa))) (fun _ hk => hk.2) (.int .i64 aP)) (fun _ hk => hk.2) (.int .i64 aQ)) (fun _ hk => hk.2) (.int .i64 aU)) (fun _ hk => hk.2) (.slice bb aD.length bc)) (fun _ hk => hk.2) (.slice bg aJ.length bh)) (fun _ hk => hk.2) (.slice bq aL.length br)) (fun _ hk => ⟨hk.1.1.1.1.1.1,⟨hk.1.1.1.1.1.2.1,⟨hk.1.1.1.1.1.2.2.1,⟨hk.1.1.1.1.1.2.2.2.1,⟨hk.1.1.1.1.2,⟨hk.1.1.1.2,⟨hk.1.1.2,⟨hk.1.2,⟨hk.1.1.1.1.1.2.2.2.2.1,⟨hk.1.1.1.1.1.2.2.2.2.2.1,hk.1.1.1.1.1.2.2.2.2.2.2⟩⟩⟩⟩⟩⟩⟩⟩⟩⟩)))⟩;have bI : Aside0 (Kd.V (Kd.int .i64) 3 b1 w.heap.size (fun k_ => ((aA k_ ∨ aB k_ ∨ aC k_) ∨ w.heap.size ≤ k_) ∧ some k_ ≠ (.slice ar am.length au : Value).ownBlock ∧ some k_ ≠ (.slice ap al.length aq : Value).ownBlock ∧ some k_ ≠ (.slice av an.length aw : Value).ownBlock ∧ some k_ ≠ (.slice bZ bs.length b0 : Value).ownBlock ∧ some k_ ≠ (.slice bb aD.length bc : Value).ownBlock ∧ some k_ ≠ (.slice bg aJ.length bh : Value).ownBlock ∧ some k_ ≠ (.slice bq aL.length br : Value).ownBlock ∧ k_ ≠ ao ∧ k_ ≠ aa ∧ k_ ≠ ae) (.slice aV ay.length aW) ay) := ⟨(by rw [hw];exact (by (with_reducible repeat (first|apply Kd.V_alloc|apply Kd.V_drewN|apply Kd.V_drew));exact Kd.V_mono (Kd.V_far (p := ⟨aa,5,none⟩) (Kd.V_far (p := ⟨aa,4,none⟩) (Kd.V_far (p := ⟨aa,3,none⟩) (Kd.V_far (p := ⟨aa,2,none⟩) (Kd.V_far (p := ⟨aa,1,none⟩) (Kd.V_far (p := ⟨aa,0,none⟩) (Kd.V_mono ac.out (fun k_ hk => (⟨hk,hk.1.1.1.1.2.2.2.2.2.1⟩ : _ ∧ k_ ≠ aa))) (fun _ hk => hk.2) (.int .i64 aP)) (fun _ hk => hk.2) (.int .i64 aQ)) (fun _ hk => hk.2) (.int .i64 aU)) (fun _ hk => hk.2) (.slice bb aD.length bc)) (fun _ hk => hk.2) (.slice bg aJ.length bh)) (fun _ hk => hk.2) (.slice bq aL.length br)) (fun _ hk => ⟨hk.1.1.1.1.1.1,⟨hk.1.1.1.1.1.2.1,⟨hk.1.1.1.1.1.2.2.1,⟨hk.1.1.1.1.1.2.2.2.1,⟨hk.1.1.1.1.2,⟨hk.1.1.1.2,⟨hk.1.1.2,⟨hk.1.2,⟨hk.1.1.1.1.1.2.2.2.2.1,⟨hk.1.1.1.1.1.2.2.2.2.2.1,hk.1.1.1.1.1.2.2.2.2.2.2⟩⟩⟩⟩⟩⟩⟩⟩⟩⟩)))⟩;have bJ : Aside0 (Kd.V Kd.string 9 b1 w.heap.size (fun k_ => ((aA k_ ∨ aB k_ ∨ aC k_) ∨ w.heap.size ≤ k_) ∧ some k_ ≠ (.slice ar am.length au : Value).ownBlock ∧ some k_ ≠ (.slice ap al.length aq : Value).ownBlock ∧ some k_ ≠ (.slice av an.length aw : Value).ownBlock ∧ some k_ ≠ (.slice bZ bs.length b0 : Value).ownBlock ∧ some k_ ≠ (.slice bb aD.length bc : Value).ownBlock ∧ some k_ ≠ (.slice bg aJ.length bh : Value).ownBlock ∧ some k_ ≠ (.slice bq aL.length br : Value).ownBlock ∧ k_ ≠ ao ∧ k_ ≠ aa ∧ k_ ≠ ae) (.slice aX az.length aY) az) := ⟨(by rw [hw];exact (by (with_reducible repeat (first|apply Kd.V_alloc|apply Kd.V_drewN|apply Kd.V_drew));exact Kd.V_mono (Kd.V_far (p := ⟨aa,5,none⟩) (Kd.V_far (p := ⟨aa,4,none⟩) (Kd.V_far (p := ⟨aa,3,none⟩) (Kd.V_far (p := ⟨aa,2,none⟩) (Kd.V_far (p := ⟨aa,1,none⟩) (Kd.V_far (p := ⟨aa,0,none⟩) (Kd.V_mono ad.out (fun k_ hk => (⟨hk,hk.1.1.1.1.2.2.2.2.2.1⟩ : _ ∧ k_ ≠ aa))) (fun _ hk => hk.2) (.int .i64 aP)) (fun _ hk => hk.2) (.int .i64 aQ)) (fun _ hk => hk.2) (.int .i64 aU)) (fun _ hk => hk.2) (.slice bb aD.length bc)) (fun _ hk => hk.2) (.slice bg aJ.length bh)) (fun _ hk => hk.2) (.slice bq aL.length br)) (fun _ hk => ⟨hk.1.1.1.1.1.1,⟨hk.1.1.1.1.1.2.1,⟨hk.1.1.1.1.1.2.2.1,⟨hk.1.1.1.1.1.2.2.2.1,⟨hk.1.1.1.1.2,⟨hk.1.1.1.2,⟨hk.1.1.2,⟨hk.1.2,⟨hk.1.1.1.1.1.2.2.2.2.1,⟨hk.1.1.1.1.1.2.2.2.2.2.1,hk.1.1.1.1.1.2.2.2.2.2.2⟩⟩⟩⟩⟩⟩⟩⟩⟩⟩)))⟩;have bK : Aside0 (Kd.R (Kd.int .i64) 3 b1 w.heap.size (fun k_ => (w.heap.size ≤ k_) ∧ some k_ ≠ (.slice ap al.length aq : Value).ownBlock ∧ some k_ ≠ (.slice bb aD.length bc : Value).ownBlock ∧ some k_ ≠ (.slice bg aJ.length bh : Value).ownBlock) (.slice ar am.length au) am) := ⟨(by rw [hw];exact (by (with_reducible repeat (first|apply Kd.R_alloc|apply Kd.R_drewN|apply Kd.R_drew));exact Kd.R_mono (Kd.R_far (p := ⟨aa,5,none⟩) (Kd.R_far (p := ⟨aa,4,none⟩) (Kd.R_far (p := ⟨aa,3,none⟩) (Kd.R_far (p := ⟨aa,2,none⟩) (Kd.R_far (p := ⟨aa,1,none⟩) (Kd.R_far (p := ⟨aa,0,none⟩) (Kd.R_types ag.out af.out (by decide)) (fun _ hk => hk.2) (.int .i64 aP)) (fun _ hk => hk.2) (.int .i64 aQ)) (fun _ hk => hk.2) (.int .i64 aU)) (fun _ hk => hk.2) (.slice bb aD.length bc)) (fun _ hk => hk.2) (.slice bg aJ.length bh)) (fun _ hk => hk.2) (.slice bq aL.length br)) (fun _ hk => ⟨hk.1.1.1.1,⟨hk.1.1.1.2,⟨hk.1.1.2,hk.1.2⟩⟩⟩)))⟩;have bL : Aside0 (Kd.R (Kd.int .i64) 3 b1 w.heap.size (fun k_ => (w.heap.size ≤ k_) ∧ some k_ ≠ (.slice ar am.length au : Value).ownBlock ∧ some k_ ≠ (.slice bb aD.length bc : Value).ownBlock ∧ some k_ ≠ (.slice bg aJ.length bh : Value).ownBlock) (.slice ap al.length aq) al) := ⟨(by rw [hw];exact (by (with_reducible repeat (first|apply Kd.R_alloc|apply Kd.R_drewN|apply Kd.R_drew));exact Kd.R_mono (Kd.R_far (p := ⟨aa,5,none⟩) (Kd.R_far (p := ⟨aa,4,none⟩) (Kd.R_far (p := ⟨aa,3,none⟩) (Kd.R_far (p := ⟨aa,2,none⟩) (Kd.R_far (p := ⟨aa,1,none⟩) (Kd.R_far (p := ⟨aa,0,none⟩) (Kd.R_types ah.out af.out (by decide)) (fun _ hk => hk.2) (.int .i64 aP)) (fun _ hk => hk.2) (.int .i64 aQ)) (fun _ hk => hk.2) (.int .i64 aU)) (fun _ hk => hk.2) (.slice bb aD.length bc)) (fun _ hk => hk.2) (.slice bg aJ.length bh)) (fun _ hk => hk.2) (.slice bq aL.length br)) (fun _ hk => ⟨hk.1.1.1.1,⟨hk.1.1.1.2,⟨hk.1.1.2,hk.1.2⟩⟩⟩)))⟩;have bN : Aside0 (Kd.R Kd.string 9 b1 w.heap.size (fun k_ => (w.heap.size ≤ k_) ∧ some k_ ≠ (.slice bq aL.length br : Value).ownBlock) (.slice av an.length aw) an) := ⟨(by rw [hw];exact (by (with_reducible repeat (first|apply Kd.R_alloc|apply Kd.R_drewN|apply Kd.R_drew));exact Kd.R_mono (Kd.R_far (p := ⟨aa,5,none⟩) (Kd.R_far (p := ⟨aa,4,none⟩) (Kd.R_far (p := ⟨aa,3,none⟩) (Kd.R_far (p := ⟨aa,2,none⟩) (Kd.R_far (p := ⟨aa,1,none⟩) (Kd.R_far (p := ⟨aa,0,none⟩) (Kd.R_types ai.out af.out (by decide)) (fun _ hk => hk.2) (.int .i64 aP)) (fun _ hk => hk.2) (.int .i64 aQ)) (fun _ hk => hk.2) (.int .i64 aU)) (fun _ hk => hk.2) (.slice bb aD.length bc)) (fun _ hk => hk.2) (.slice bg aJ.length bh)) (fun _ hk => hk.2) (.slice bq aL.length br)) (fun _ hk => ⟨hk.1.1,hk.1.2⟩)))⟩;have bO : Aside0 (Kd.V (Kd.int .i64) 3 b1 w.heap.size (fun k_ => ((aA k_ ∨ aB k_ ∨ aC k_) ∨ w.heap.size ≤ k_) ∧ some k_ ≠ (.slice ar am.length au : Value).ownBlock ∧ some k_ ≠ (.slice ap al.length aq : Value).ownBlock ∧ some k_ ≠ (.slice av an.length aw : Value).ownBlock ∧ some k_ ≠ (.slice bZ bs.length b0 : Value).ownBlock ∧ some k_ ≠ (.slice bb aD.length bc : Value).ownBlock ∧ some k_ ≠ (.slice bg aJ.length bh : Value).ownBlock ∧ some k_ ≠ (.slice bq aL.length br : Value).ownBlock ∧ k_ ≠ ao ∧ k_ ≠ aa ∧ k_ ≠ ae) (.slice aS ax.length aT) ax) := ⟨(by rw [hw];exact (by (with_reducible repeat (first|apply Kd.V_alloc|apply Kd.V_drewN|apply Kd.V_drew));exact Kd.V_mono (Kd.V_far (p := ⟨aa,5,none⟩) (Kd.V_far (p := ⟨aa,4,none⟩) (Kd.V_far (p := ⟨aa,3,none⟩) (Kd.V_far (p := ⟨aa,2,none⟩) (Kd.V_far (p := ⟨aa,1,none⟩) (Kd.V_far (p := ⟨aa,0,none⟩) (Kd.V_mono aG.out (fun k_ hk => (⟨hk,hk.1.1.1.1.2.2.2.2.2.1⟩ : _ ∧ k_ ≠ aa))) (fun _ hk => hk.2) (.int .i64 aP)) (fun _ hk => hk.2) (.int .i64 aQ)) (fun _ hk => hk.2) (.int .i64 aU)) (fun _ hk => hk.2) (.slice bb aD.length bc)) (fun _ hk => hk.2) (.slice bg aJ.length bh)) (fun _ hk => hk.2) (.slice bq aL.length br)) (fun _ hk => ⟨hk.1.1.1.1.1.1,⟨hk.1.1.1.1.1.2.1,⟨hk.1.1.1.1.1.2.2.1,⟨hk.1.1.1.1.1.2.2.2.1,⟨hk.1.1.1.1.2,⟨hk.1.1.1.2,⟨hk.1.1.2,⟨hk.1.2,⟨hk.1.1.1.1.1.2.2.2.2.1,⟨hk.1.1.1.1.1.2.2.2.2.2.1,hk.1.1.1.1.1.2.2.2.2.2.2⟩⟩⟩⟩⟩⟩⟩⟩⟩⟩)))⟩;have bP : Aside0 (Kd.V (Kd.int .i64) 3 b1 w.heap.size (fun k_ => ((aA k_ ∨ aB k_ ∨ aC k_) ∨ w.heap.size ≤ k_) ∧ some k_ ≠ (.slice ar am.length au : Value).ownBlock ∧ some k_ ≠ (.slice ap al.length aq : Value).ownBlock ∧ some k_ ≠ (.slice av an.length aw : Value).ownBlock ∧ some k_ ≠ (.slice bZ bs.length b0 : Value).ownBlock ∧ some k_ ≠ (.slice bb aD.length bc : Value).ownBlock ∧ some k_ ≠ (.slice bg aJ.length bh : Value).ownBlock ∧ some k_ ≠ (.slice bq aL.length br : Value).ownBlock ∧ k_ ≠ ao ∧ k_ ≠ aa ∧ k_ ≠ ae) (.slice aV ay.length aW) ay) := ⟨(by rw [hw];exact (by (with_reducible repeat (first|apply Kd.V_alloc|apply Kd.V_drewN|apply Kd.V_drew));exact Kd.V_mono (Kd.V_far (p := ⟨aa,5,none⟩) (Kd.V_far (p := ⟨aa,4,none⟩) (Kd.V_far (p := ⟨aa,3,none⟩) (Kd.V_far (p := ⟨aa,2,none⟩) (Kd.V_far (p := ⟨aa,1,none⟩) (Kd.V_far (p := ⟨aa,0,none⟩) (Kd.V_mono aH.out (fun k_ hk => (⟨hk,hk.1.1.1.1.2.2.2.2.2.1⟩ : _ ∧ k_ ≠ aa))) (fun _ hk => hk.2) (.int .i64 aP)) (fun _ hk => hk.2) (.int .i64 aQ)) (fun _ hk => hk.2) (.int .i64 aU)) (fun _ hk => hk.2) (.slice bb aD.length bc)) (fun _ hk => hk.2) (.slice bg aJ.length bh)) (fun _ hk => hk.2) (.slice bq aL.length br)) (fun _ hk => ⟨hk.1.1.1.1.1.1,⟨hk.1.1.1.1.1.2.1,⟨hk.1.1.1.1.1.2.2.1,⟨hk.1.1.1.1.1.2.2.2.1,⟨hk.1.1.1.1.2,⟨hk.1.1.1.2,⟨hk.1.1.2,⟨hk.1.2,⟨hk.1.1.1.1.1.2.2.2.2.1,⟨hk.1.1.1.1.1.2.2.2.2.2.1,hk.1.1.1.1.1.2.2.2.2.2.2⟩⟩⟩⟩⟩⟩⟩⟩⟩⟩)))⟩;have bQ : Aside0 (Kd.V Kd.string 9 b1 w.heap.size (fun k_ => ((aA k_ ∨ aB k_ ∨ aC k_) ∨ w.heap.size ≤ k_) ∧ some k_ ≠ (.slice ar am.length au : Value).ownBlock ∧ some k_ ≠ (.slice ap al.length aq : Value).ownBlock ∧ some k_ ≠ (.slice av an.length aw : Value).ownBlock ∧ some k_ ≠ (.slice bZ bs.length b0 : Value).ownBlock ∧ some k_ ≠ (.slice bb aD.length bc : Value).ownBlock ∧ some k_ ≠ (.slice bg aJ.length bh : Value).ownBlock ∧ some k_ ≠ (.slice bq aL.length br : Value).ownBlock ∧ k_ ≠ ao ∧ k_ ≠ aa ∧ k_ ≠ ae) (.slice aX az.length aY) az) := ⟨(by rw [hw];exact (by (with_reducible repeat (first|apply Kd.V_alloc|apply Kd.V_drewN|apply Kd.V_drew));exact Kd.V_mono (Kd.V_far (p := ⟨aa,5,none⟩) (Kd.V_far (p := ⟨aa,4,none⟩) (Kd.V_far (p := ⟨aa,3,none⟩) (Kd.V_far (p := ⟨aa,2,none⟩) (Kd.V_far (p := ⟨aa,1,none⟩) (Kd.V_far (p := ⟨aa,0,none⟩) (Kd.V_mono aI.out (fun k_ hk => (⟨hk,hk.1.1.1.1.2.2.2.2.2.1⟩ : _ ∧ k_ ≠ aa))) (fun _ hk => hk.2) (.int .i64 aP)) (fun _ hk => hk.2) (.int .i64 aQ)) (fun _ hk => hk.2) (.int .i64 aU)) (fun _ hk => hk.2) (.slice bb aD.length bc)) (fun _ hk => hk.2) (.slice bg aJ.length bh)) (fun _ hk => hk.2) (.slice bq aL.length br)) (fun _ hk => ⟨hk.1.1.1.1.1.1,⟨hk.1.1.1.1.1.2.1,⟨hk.1.1.1.1.1.2.2.1,⟨hk.1.1.1.1.1.2.2.2.1,⟨hk.1.1.1.1.2,⟨hk.1.1.1.2,⟨hk.1.1.2,⟨hk.1.2,⟨hk.1.1.1.1.1.2.2.2.2.1,⟨hk.1.1.1.1.1.2.2.2.2.2.1,hk.1.1.1.1.1.2.2.2.2.2.2⟩⟩⟩⟩⟩⟩⟩⟩⟩⟩)))⟩;have b7 : Aside0 (Kd.R (Kd.int .u8) 5 b1 w.heap.size (fun k_ => (w.heap.size ≤ k_)) (.slice bZ bs.length b0) bs) := ⟨(by rw [hw];exact (by (with_reducible repeat (first|apply Kd.R_alloc|apply Kd.R_drewN|apply Kd.R_drew));exact Kd.R_mono (Kd.R_far (p := ⟨aa,5,none⟩) (Kd.R_far (p := ⟨aa,4,none⟩) (Kd.R_far (p := ⟨aa,3,none⟩) (Kd.R_far (p := ⟨aa,2,none⟩) (Kd.R_far (p := ⟨aa,1,none⟩) (Kd.R_far (p := ⟨aa,0,none⟩) (Kd.R_types a8.out af.out (by decide)) (fun _ hk => hk.2) (.int .i64 aP)) (fun _ hk => hk.2) (.int .i64 aQ)) (fun _ hk => hk.2) (.int .i64 aU)) (fun _ hk => hk.2) (.slice bb aD.length bc)) (fun _ hk => hk.2) (.slice bg aJ.length bh)) (fun _ hk => hk.2) (.slice bq aL.length br)) (fun _ hk => hk.1.1)))⟩;have cc : Aside0 (Kd.R (Kd.int .i64) 3 b1 w.heap.size (fun k_ => (w.heap.size ≤ k_) ∧ some k_ ≠ (.slice ar am.length au : Value).ownBlock ∧ some k_ ≠ (.slice ap al.length aq : Value).ownBlock ∧ some k_ ≠ (.slice bg aJ.length bh : Value).ownBlock) (.slice bb aD.length bc) aD) := ⟨(by rw [hw];exact (by (with_reducible repeat (first|apply Kd.R_alloc|apply Kd.R_drewN|apply Kd.R_drew));exact Kd.R_mono (Kd.R_far (p := ⟨aa,5,none⟩) (Kd.R_far (p := ⟨aa,4,none⟩) (Kd.R_far (p := ⟨aa,3,none⟩) (Kd.R_far (p := ⟨aa,2,none⟩) (Kd.R_far (p := ⟨aa,1,none⟩) (Kd.R_far (p := ⟨aa,0,none⟩) (Kd.R_types bu.out af.out (by decide)) (fun _ hk => hk.2) (.int .i64 aP)) (fun _ hk => hk.2) (.int .i64 aQ)) (fun _ hk => hk.2) (.int .i64 aU)) (fun _ hk => hk.2) (.slice bb aD.length bc)) (fun _ hk => hk.2) (.slice bg aJ.length bh)) (fun _ hk => hk.2) (.slice bq aL.length br)) (fun _ hk => ⟨hk.1.1.1.1,⟨hk.1.1.2,⟨hk.1.2,hk.1.1.1.2⟩⟩⟩)))⟩;have cd : Aside0 (Kd.R (Kd.int .i64) 3 b1 w.heap.size (fun k_ => (w.heap.size ≤ k_) ∧ some k_ ≠ (.slice ar am.length au : Value).ownBlock ∧ some k_ ≠ (.slice ap al.length aq : Value).ownBlock ∧ some k_ ≠ (.slice bb aD.length bc : Value).ownBlock) (.slice bg aJ.length bh) aJ) := ⟨(by rw [hw];exact (by (with_reducible repeat (first|apply Kd.R_alloc|apply Kd.R_drewN|apply Kd.R_drew));exact Kd.R_mono (Kd.R_far (p := ⟨aa,5,none⟩) (Kd.R_far (p := ⟨aa,4,none⟩) (Kd.R_far (p := ⟨aa,3,none⟩) (Kd.R_far (p := ⟨aa,2,none⟩) (Kd.R_far (p := ⟨aa,1,none⟩) (Kd.R_far (p := ⟨aa,0,none⟩) (Kd.R_types bv.out af.out (by decide)) (fun _ hk => hk.2) (.int .i64 aP)) (fun _ hk => hk.2) (.int .i64 aQ)) (fun _ hk => hk.2) (.int .i64 aU)) (fun _ hk => hk.2) (.slice bb aD.length bc)) (fun _ hk => hk.2) (.slice bg aJ.length bh)) (fun _ hk => hk.2) (.slice bq aL.length br)) (fun _ hk => ⟨hk.1.1.1.1,⟨hk.1.1.2,⟨hk.1.2,hk.1.1.1.2⟩⟩⟩)))⟩;have ce : Aside0 (Kd.R Kd.string 9 b1 w.heap.size (fun k_ => (w.heap.size ≤ k_) ∧ some k_ ≠ (.slice av an.length aw : Value).ownBlock) (.slice bq aL.length br) aL) := ⟨(by rw [hw];exact (by (with_reducible repeat (first|apply Kd.R_alloc|apply Kd.R_drewN|apply Kd.R_drew));exact Kd.R_mono (Kd.R_far (p := ⟨aa,5,none⟩) (Kd.R_far (p := ⟨aa,4,none⟩) (Kd.R_far (p := ⟨aa,3,none⟩) (Kd.R_far (p := ⟨aa,2,none⟩) (Kd.R_far (p := ⟨aa,1,none⟩) (Kd.R_far (p := ⟨aa,0,none⟩) (Kd.R_types bx.out af.out (by decide)) (fun _ hk => hk.2) (.int .i64 aP)) (fun _ hk => hk.2) (.int .i64 aQ)) (fun _ hk => hk.2) (.int .i64 aU)) (fun _ hk => hk.2) (.slice bb aD.length bc)) (fun _ hk => hk.2) (.slice bg aJ.length bh)) (fun _ hk => hk.2) (.slice bq aL.length br)) (fun _ hk => ⟨hk.1.1.1,hk.1.2⟩)))⟩;have cf : Aside0 (b1.heap[ao]? = some (.cells #[.int .i64 a0,.int .i64 aN,.int .i64 aO,.slice aS ax.length aT,.slice aV ay.length aW,.slice aX az.length aY] 37 (0,0))) := ⟨(by rw [hw];exact (by refine kO ?_;refine blk_far ?_ ak.out _;refine kO ?_;refine blk_far ?_ ak.out _;refine kO ?_;refine blk_far ?_ ak.out _;refine kO ?_;refine blk_far ?_ ak.out _;refine kO ?_;refine blk_far ?_ ak.out _;refine kO ?_;refine blk_far ?_ ak.out _;refine kO ?_;exact aj.out))⟩;have cg : Aside0 (b1.heap[aa]? = some (.cells #[.int .i64 aP,.int .i64 aQ,.int .i64 aU,.slice bb aD.length bc,.slice bg aJ.length bh,.slice bq aL.length br] 37 (0,0))) := ⟨(by rw [hw];exact (by refine kO ?_;refine blk_put (cs := #[.int .i64 aP,.int .i64 aQ,.int .i64 aU,.slice bb aD.length bc,.slice bg aJ.length bh,.slice av an.length aw]) ?_ 5 _ rfl;refine kO ?_;refine blk_put (cs := #[.int .i64 aP,.int .i64 aQ,.int .i64 aU,.slice bb aD.length bc,.slice ap al.length aq,.slice av an.length aw]) ?_ 4 _ rfl;refine kO ?_;refine blk_put (cs := #[.int .i64 aP,.int .i64 aQ,.int .i64 aU,.slice ar am.length au,.slice ap al.length aq,.slice av an.length aw]) ?_ 3 _ rfl;refine kO ?_;refine blk_put (cs := #[.int .i64 aP,.int .i64 aQ,.int .i64 bd,.slice ar am.length au,.slice ap al.length aq,.slice av an.length aw]) ?_ 2 _ rfl;refine kO ?_;refine blk_put (cs := #[.int .i64 aP,.int .i64 bi,.int .i64 bd,.slice ar am.length au,.slice ap al.length aq,.slice av an.length aw]) ?_ 1 _ rfl;refine kO ?_;refine blk_put (cs := #[.int .i64 bk,.int .i64 bi,.int .i64 bd,.slice ar am.length au,.slice ap al.length aq,.slice av an.length aw]) ?_ 0 _ rfl;refine kO ?_;exact af.out))⟩;have ch : Aside0 (b1.heap[ae]? = some (.cells #[.int .i64 1,.int .i64 aN,.int .i64 aO,.slice aS ax.length aT,.slice aV ay.length aW,.slice aX az.length aY] 37 (0,0))) := ⟨(by rw [hw];exact (by refine kO ?_;refine blk_far ?_ aF.out _;refine kO ?_;refine blk_far ?_ aF.out _;refine kO ?_;refine blk_far ?_ aF.out _;refine kO ?_;refine blk_far ?_ aF.out _;refine kO ?_;refine blk_far ?_ aF.out _;refine kO ?_;refine blk_far ?_ aF.out _;refine kO ?_;exact aM.out))⟩;have ci : Aside0 (Below w.heap.size w b1) := ⟨(by rw [hw];exact (bG HB.out))⟩;clear hw;clear ab;clear ac;clear ad;clear ag;clear ah;clear ai;clear aG;clear aH;clear aI;clear a8;clear bu;clear bv;clear bx;clear aj;clear af;clear aM;clear HB;have ab := bH;have ac := bI;have ad := bJ;have ag := bK;have ah := bL;have ai := bN;have aG := bO;have aH := bP;have aI := bQ;have a8 := b7;have bu := cc;have bv := cd;have bx := ce;have aj := cf;have af := cg;have aM := ch;have HB := ci;clear bH bI bJ bK bL bN bO bP bQ b7 cc cd ce cf cg ch ci))
         go_ret
         exact ⟨by first|rfl|(simp [errW_none,errW_some] <;> rfl)|(simp [*,errW_none,errW_some] <;> rfl),bG HB.out⟩
 ·replace c4 := Bool.eq_false_iff.mpr c4
  subst c4
  rw [if_neg (show ¬ (false = true) by decide)] at H
  obtain rfl := Option.some.inj H
  go_enter Tryd.func5,Tryd.ntmps5
  go_wp2_with (first|((with_reducible refine gate_dst (N := 2) rfl ?_);(try (refine gate_guard (by rfl) ?_;dsimp only));refine box_event ?hg (N := 2) ?hd (cs := #[.int .i64 a0,.int .i64 aN,.int .i64 aO,.slice aS ax.length aT,.slice aV ay.length aW,.slice aX az.length aY]) (t := 37) ?hr ?_;(case hd => rfl);(case hg => rfl);(case hr => first|(go_simp;done)|(go_simp;rfl));intro ao hg fF hbox hb;have b3 := aK ((by rw [hg];exact (below_size (bM HB.out)) : w.heap.size ≤ ao));have dr := Ge.mk b3.out;have b4 := aK ((by rw [hg];exact (below_size (bM HB.out)) : w.heap.size ≤ ao));have dt := Ge.mk b4.out;replace HB := aK (below_step (bM HB.out) hb);clear hb hbox hg)|((with_reducible refine gate_callee (f := 7) rfl ?_);refine gL 8 Tryd.func7 #[] ?_;(with_reducible refine (l33_alive.calls k  false _ A3.out).mono ?_);rintro e fG ⟨rfl,hb⟩;refine ⟨_,rfl,?_⟩;replace HB := aK (below_step (bG HB.out) hb);(try clear hb);(try clear hk)))
  go_ret
  exact ⟨by first|rfl|(simp [errW_none,errW_some] <;> rfl)|(simp [*,errW_none,errW_some] <;> rfl),bG HB.out⟩
end Go.Proofs.YtmgliocboeifdaaDoor.K
