/- The examples of chapter 25 hold. -/
import Derived.Test.YtpnhamfodjfacaaDoorNQPaths25
import Derived.Test.YtpnhamfodjfacaaDoorNx9
import Derived.Test.YtpnhamfodjfacaaDoorNx6
import Derived.Test.YtpnhamfodjfacaaDoorNx8
namespace Go.Proofs.YtpnhamfodjfacaaDoor.Q
open Go.RowKit Go.Proofs.YtpnhamfodjfacaaDoorW.PrintWords Go.Proofs.YtpnhamfodjfacaaDoorW.PrintLast Go.Proofs.YtpnhamfodjfacaaDoorW.PrintMore Go.Proofs.YtpnhamfodjfacaaDoor.N
set_option linter.unusedVariables false
/-- The paths of maps, in a form that reckons. -/
def pathsO (ms : List MP) : List ByteArray := (ones (ms.flatten.map fun p => (⟨p.1, 1⟩ : SF))).map (·.f0)
theorem pathsM_ones (ms : List MP) : pathsM ms = pathsO ms := by
  obtain ⟨h1, h2⟩ := ones_prop (ms.flatten.map fun p => (⟨p.1, 1⟩ : SF))
  refine inc_ext (pathsM_inc _) (inc_of h1) (fun s => ?_)
  rw [mem_pathsM, pathsO, List.mem_map, h2 s]
  constructor
  · rintro ⟨m, hm, h⟩
    obtain ⟨p, hp, rfl⟩ := List.mem_map.1 ((mget_mem m s).1 h)
    exact ⟨⟨p.1, 1⟩, List.mem_map.2 ⟨p, List.mem_flatten.2 ⟨m, hm, hp⟩, rfl⟩, rfl⟩
  · rintro ⟨f, hf, rfl⟩
    obtain ⟨p, hp, rfl⟩ := List.mem_map.1 hf
    obtain ⟨m, hm, hp⟩ := List.mem_flatten.1 hp
    exact ⟨m, hm, (mget_mem m p.1).2 (List.mem_map.2 ⟨p, hp, rfl⟩)⟩
def filesO (m : MP) : FS := ((pathsO [m]).filter fun s => decide (valM m s ≠ 0)).map fun s => ⟨s, valM m s⟩
theorem filesM_ones (m : MP) : filesM m = filesO m := by rw [filesM, pathsM_ones]; rfl
set_option maxRecDepth 100000 in
theorem al_apply1 : Ev (fun k => tree_Apply.f k [⟨⟨#[97]⟩, 1⟩, ⟨⟨#[98]⟩, 2⟩] [⟨⟨#[97]⟩, 5⟩, ⟨⟨#[98]⟩, 0⟩]) ([⟨⟨#[97]⟩, 5⟩], 0) := Ev.of (fun k => tree_Apply.mono _ _ k) (k := 60) (by simp only [tree_Apply.f, filesM_ones]; decide +kernel)
set_option maxRecDepth 100000 in
theorem al_apply2 : Ev (fun k => tree_Apply.f k [⟨⟨#[97]⟩, 1⟩, ⟨⟨#[98]⟩, 2⟩] [⟨⟨#[98]⟩, 0⟩, ⟨⟨#[98]⟩, 0⟩]) ([], 8) := Ev.of (fun k => tree_Apply.mono _ _ k) (k := 60) (by simp only [tree_Apply.f, filesM_ones]; decide +kernel)
set_option maxRecDepth 100000 in
theorem al_right1 : Ev (fun k => tree_Right.f k [⟨⟨#[97, 47, 98]⟩, 1⟩, ⟨⟨#[97, 46, 99]⟩, 2⟩]) 7 := Ev.of (fun k => tree_Right.mono _ k) (k := 60) (by decide +kernel)
set_option maxRecDepth 100000 in
theorem al_right2 : Ev (fun k => tree_Right.f k [⟨⟨#[97]⟩, 1⟩, ⟨⟨#[97, 47, 98]⟩, 2⟩]) 14 := Ev.of (fun k => tree_Right.mono _ k) (k := 60) (by decide +kernel)
set_option maxRecDepth 100000 in
theorem al_names1 : Ev (fun k => tree_Names.f k [⟨⟨#[97, 47, 120]⟩, 1⟩, ⟨⟨#[97, 47, 121, 47, 122]⟩, 1⟩, ⟨⟨#[98]⟩, 1⟩] ⟨#[]⟩) [⟨#[97]⟩, ⟨#[98]⟩] := Ev.of (fun k => tree_Names.mono _ _ k) (k := 60) (by simp only [tree_Names.f, pathsM_ones]; decide +kernel)
set_option maxRecDepth 100000 in
theorem al_names2 : Ev (fun k => tree_Names.f k [⟨⟨#[97, 47, 120]⟩, 1⟩, ⟨⟨#[97, 47, 121, 47, 122]⟩, 1⟩, ⟨⟨#[98]⟩, 1⟩] ⟨#[97]⟩) [⟨#[120]⟩, ⟨#[121]⟩] := Ev.of (fun k => tree_Names.mono _ _ k) (k := 60) (by simp only [tree_Names.f, pathsM_ones]; decide +kernel)
set_option maxRecDepth 100000 in
theorem al_under : Ev (fun k => tree_Under.f k [⟨⟨#[97, 47, 120]⟩, 1⟩, ⟨⟨#[97, 47, 121, 47, 122]⟩, 1⟩, ⟨⟨#[98]⟩, 1⟩] ⟨#[97]⟩) [⟨⟨#[97, 47, 120]⟩, 1⟩, ⟨⟨#[97, 47, 121, 47, 122]⟩, 1⟩] := Ev.of (fun k => tree_Under.mono _ _ k) (k := 60) (by decide +kernel)
set_option maxRecDepth 100000 in
theorem al_merge : tree_Merge.f [⟨⟨#[97]⟩, 1⟩, ⟨⟨#[98]⟩, 1⟩] [⟨⟨#[97]⟩, 2⟩, ⟨⟨#[98]⟩, 1⟩] [⟨⟨#[97]⟩, 3⟩, ⟨⟨#[99]⟩, 3⟩] = some ([⟨⟨#[97]⟩, 2⟩, ⟨⟨#[99]⟩, 3⟩], [⟨#[97]⟩]) := by simp only [tree_Merge.f, filesM_ones, pathsM_ones]; decide +kernel
set_option maxRecDepth 100000 in
theorem al_diff : tree_Diff.f [⟨⟨#[97]⟩, 1⟩, ⟨⟨#[98]⟩, 2⟩] [⟨⟨#[97]⟩, 5⟩] = some [⟨⟨#[97]⟩, 5⟩, ⟨⟨#[98]⟩, 0⟩] := by
  have e : diffM (contsM [⟨⟨#[97]⟩, 1⟩, ⟨⟨#[98]⟩, 2⟩]) (contsM [⟨⟨#[97]⟩, 5⟩]) = [⟨⟨#[97]⟩, 5⟩, ⟨⟨#[98]⟩, 0⟩] := by rw [diffM, pathsM_ones]; rfl
  rw [tree_Diff.f, e, if_pos (by decide +kernel)]
theorem alive25 : Ev (fun k => codesearchlaw25_alive.f k) true := by
  refine Ev.congr (fun k => by rw [codesearchlaw25_alive.f, Option.bind_some]) (Ev.bind al_apply1 (Ev.bind al_apply2 (Ev.ite_pos rfl (Ev.ite_pos rfl ?_))))
  refine Ev.bind (Files_is _ _ (by decide)) ?_
  rw [decide_eq_true rfl]
  refine Ev.step (fun k => by rw [codesearchlaw25_alive.j0, if_neg (by decide)]) (Ev.bind al_right1 (Ev.ite_pos rfl (Ev.bind al_right2 ?_)))
  refine Ev.step (fun k => by rw [codesearchlaw25_alive.j1, if_neg (by decide), Option.bind_some]) (Ev.bind al_names1 (Ev.bind (Strings_self [⟨#[97]⟩, ⟨#[98]⟩] (by decide)) (Ev.ite_pos rfl ?_)))
  refine Ev.bind al_names2 (Ev.bind (Strings_self [⟨#[120]⟩, ⟨#[121]⟩] (by decide)) (Ev.ite_pos rfl (Ev.bind al_under ?_)))
  refine Ev.step (fun k => by rw [codesearchlaw25_alive.j2, if_neg (by decide)]) (Ev.bind (Get_is [⟨⟨#[97, 47, 120]⟩, 1⟩, ⟨⟨#[97, 47, 121, 47, 122]⟩, 1⟩, ⟨⟨#[98]⟩, 1⟩] ⟨#[98]⟩ (by decide)) (Ev.bind_eq al_merge (Ev.bind_eq al_diff (Ev.bind (Changes_self [⟨⟨#[97]⟩, 5⟩, ⟨⟨#[98]⟩, 0⟩] (by decide)) (Ev.ite_pos rfl ?_)))))
  refine Ev.ite_pos (by decide) ?_
  refine Ev.step (fun k => by rw [codesearchlaw25_alive.j3, if_neg (by decide)]) (Ev.bind (Files_is _ _ (by decide)) ?_)
  rw [decide_eq_true rfl]
  exact Ev.ite_pos rfl (Ev.bind (Strings_self [⟨#[97]⟩] (by decide)) (Ev.now _))
end Go.Proofs.YtpnhamfodjfacaaDoor.Q
