/-
  DERIVED. GIVEN WITH THE SEED: THE CARDS: each row of YtpnhamfodjfacaaDoorRows.lean that lists a variable, with what it lists TIED to the program's text (the seventh form; the later family's looks); each row that meets fmt, with fmt's text TOLD by the authors' own Lean function (tested against real Go, not proved from fmt's source: count such statements apart). THE CARD IS WHAT COUNTS. Prove the row's statement (the work); the ties are given (YtpnhamfodjfacaaDoorTie.lean); close each card by the builder's one call (the guide's Derived/Test/ToyasCard.lean, 'card_holds'). Laid BY PROGRAM, IN A SANDBOX (cutbox-door.mjs). By AI agents, Wed Nov 11 2026. No macro, syntax, notation, axiom, sorry.
-/
import Derived.Test.YtpnhamfodjfacaaDoorRows
import GoSem.ClaimSeven
namespace Go.Proofs.YtpnhamfodjfacaaDoor
namespace Rows

/-- THE TIED CARD OF 'codesearchlaw25.TreeRights'. -/
def treeRightsCard : Claim7 := { stood := { row := treeRightsRow, standIns := [], harness := (true, "c6cd36a5c1cb2deb1b757e2132e91b33216a9ad97ba4e647d655f4d2dc3ecefb"), looks := false }, kinds := [], alts := [], laidByText := true, laidKinds := [.data, .pinned], laidTests := true, laidLooks := .later }
def TreeRightsCardSaid : Prop := Claim7.holds Tryd.pinned (.plain (OpenSpec.ofChange treeRightsSpec)) treeRightsCard

/-- THE TIED CARD OF 'codesearchlaw25.TreeApplies'. -/
def treeAppliesCard : Claim7 := { stood := { row := treeAppliesRow, standIns := [], harness := (true, "c6cd36a5c1cb2deb1b757e2132e91b33216a9ad97ba4e647d655f4d2dc3ecefb"), looks := false }, kinds := [], alts := [], laidByText := true, laidKinds := [.data, .pinned], laidTests := true, laidLooks := .later }
def TreeAppliesCardSaid : Prop := Claim7.holds Tryd.pinned (.plain (OpenSpec.ofChange treeAppliesSpec)) treeAppliesCard

/-- THE TIED CARD OF 'codesearchlaw25.TreeDiffs'. -/
def treeDiffsCard : Claim7 := { stood := { row := treeDiffsRow, standIns := [], harness := (true, "c6cd36a5c1cb2deb1b757e2132e91b33216a9ad97ba4e647d655f4d2dc3ecefb"), looks := false }, kinds := [], alts := [], laidByText := true, laidKinds := [.data, .pinned], laidTests := true, laidLooks := .later }
def TreeDiffsCardSaid : Prop := Claim7.holds Tryd.pinned (.plain (OpenSpec.ofChange treeDiffsSpec)) treeDiffsCard

/-- THE TIED CARD OF 'codesearchlaw25.TreeNames'. -/
def treeNamesCard : Claim7 := { stood := { row := treeNamesRow, standIns := [], harness := (true, "c6cd36a5c1cb2deb1b757e2132e91b33216a9ad97ba4e647d655f4d2dc3ecefb"), looks := false }, kinds := [], alts := [], laidByText := true, laidKinds := [.data, .pinned], laidTests := true, laidLooks := .later }
def TreeNamesCardSaid : Prop := Claim7.holds Tryd.pinned (.plain (OpenSpec.ofChange treeNamesSpec)) treeNamesCard

/-- THE TIED CARD OF 'codesearchlaw25.TreeMergeds'. -/
def treeMergedsCard : Claim7 := { stood := { row := treeMergedsRow, standIns := [], harness := (true, "c6cd36a5c1cb2deb1b757e2132e91b33216a9ad97ba4e647d655f4d2dc3ecefb"), looks := false }, kinds := [], alts := [], laidByText := true, laidKinds := [.data, .pinned], laidTests := true, laidLooks := .later }
def TreeMergedsCardSaid : Prop := Claim7.holds Tryd.pinned (.plain (OpenSpec.ofChange treeMergedsSpec)) treeMergedsCard

/-- THE TIED CARD OF 'codesearchlaw25.TreeMerges'. -/
def treeMergesCard : Claim7 := { stood := { row := treeMergesRow, standIns := [], harness := (true, "c6cd36a5c1cb2deb1b757e2132e91b33216a9ad97ba4e647d655f4d2dc3ecefb"), looks := false }, kinds := [], alts := [], laidByText := true, laidKinds := [.data, .pinned], laidTests := true, laidLooks := .later }
def TreeMergesCardSaid : Prop := Claim7.holds Tryd.pinned (.plain (OpenSpec.ofChange treeMergesSpec)) treeMergesCard

/-- THE TIED CARD OF 'codesearchlaw25.TreeBack'. -/
def treeBackCard : Claim7 := { stood := { row := treeBackRow, standIns := [], harness := (true, "c6cd36a5c1cb2deb1b757e2132e91b33216a9ad97ba4e647d655f4d2dc3ecefb"), looks := false }, kinds := [], alts := [], laidByText := true, laidKinds := [.data, .pinned], laidTests := true, laidLooks := .later }
def TreeBackCardSaid : Prop := Claim7.holds Tryd.pinned (.plain (OpenSpec.ofChange treeBackSpec)) treeBackCard

/-- THE TIED CARD OF 'codesearchlaw25.TreeKeeps'. -/
def treeKeepsCard : Claim7 := { stood := { row := treeKeepsRow, standIns := [], harness := (true, "c6cd36a5c1cb2deb1b757e2132e91b33216a9ad97ba4e647d655f4d2dc3ecefb"), looks := false }, kinds := [], alts := [], laidByText := true, laidKinds := [.data, .pinned], laidTests := true, laidLooks := .later }
def TreeKeepsCardSaid : Prop := Claim7.holds Tryd.pinned (.plain (OpenSpec.ofChange treeKeepsSpec)) treeKeepsCard

/-- THE SECOND FORM's CARD OF 'codesearchlaw25.TreeRights'. -/
def treeRightsUptoCard : Claim7 := { stood := { row := treeRightsUptoRow, standIns := [], harness := (true, "c6cd36a5c1cb2deb1b757e2132e91b33216a9ad97ba4e647d655f4d2dc3ecefb"), looks := false }, kinds := [], alts := [], laidByText := true, laidKinds := [.data, .pinned], laidTests := true, laidLooks := .later }
def TreeRightsUptoCardSaid : Prop := Claim7.holds Tryd.pinned (.plain (OpenSpec.upto treeRightsSpec)) treeRightsUptoCard

/-- THE SECOND FORM's CARD OF 'codesearchlaw25.TreeApplies'. -/
def treeAppliesUptoCard : Claim7 := { stood := { row := treeAppliesUptoRow, standIns := [], harness := (true, "c6cd36a5c1cb2deb1b757e2132e91b33216a9ad97ba4e647d655f4d2dc3ecefb"), looks := false }, kinds := [], alts := [], laidByText := true, laidKinds := [.data, .pinned], laidTests := true, laidLooks := .later }
def TreeAppliesUptoCardSaid : Prop := Claim7.holds Tryd.pinned (.plain (OpenSpec.upto treeAppliesSpec)) treeAppliesUptoCard

/-- THE SECOND FORM's CARD OF 'codesearchlaw25.TreeDiffs'. -/
def treeDiffsUptoCard : Claim7 := { stood := { row := treeDiffsUptoRow, standIns := [], harness := (true, "c6cd36a5c1cb2deb1b757e2132e91b33216a9ad97ba4e647d655f4d2dc3ecefb"), looks := false }, kinds := [], alts := [], laidByText := true, laidKinds := [.data, .pinned], laidTests := true, laidLooks := .later }
def TreeDiffsUptoCardSaid : Prop := Claim7.holds Tryd.pinned (.plain (OpenSpec.upto treeDiffsSpec)) treeDiffsUptoCard

/-- THE SECOND FORM's CARD OF 'codesearchlaw25.TreeNames'. -/
def treeNamesUptoCard : Claim7 := { stood := { row := treeNamesUptoRow, standIns := [], harness := (true, "c6cd36a5c1cb2deb1b757e2132e91b33216a9ad97ba4e647d655f4d2dc3ecefb"), looks := false }, kinds := [], alts := [], laidByText := true, laidKinds := [.data, .pinned], laidTests := true, laidLooks := .later }
def TreeNamesUptoCardSaid : Prop := Claim7.holds Tryd.pinned (.plain (OpenSpec.upto treeNamesSpec)) treeNamesUptoCard

/-- THE SECOND FORM's CARD OF 'codesearchlaw25.TreeMergeds'. -/
def treeMergedsUptoCard : Claim7 := { stood := { row := treeMergedsUptoRow, standIns := [], harness := (true, "c6cd36a5c1cb2deb1b757e2132e91b33216a9ad97ba4e647d655f4d2dc3ecefb"), looks := false }, kinds := [], alts := [], laidByText := true, laidKinds := [.data, .pinned], laidTests := true, laidLooks := .later }
def TreeMergedsUptoCardSaid : Prop := Claim7.holds Tryd.pinned (.plain (OpenSpec.upto treeMergedsSpec)) treeMergedsUptoCard

/-- THE SECOND FORM's CARD OF 'codesearchlaw25.TreeMerges'. -/
def treeMergesUptoCard : Claim7 := { stood := { row := treeMergesUptoRow, standIns := [], harness := (true, "c6cd36a5c1cb2deb1b757e2132e91b33216a9ad97ba4e647d655f4d2dc3ecefb"), looks := false }, kinds := [], alts := [], laidByText := true, laidKinds := [.data, .pinned], laidTests := true, laidLooks := .later }
def TreeMergesUptoCardSaid : Prop := Claim7.holds Tryd.pinned (.plain (OpenSpec.upto treeMergesSpec)) treeMergesUptoCard

/-- THE SECOND FORM's CARD OF 'codesearchlaw25.TreeBack'. -/
def treeBackUptoCard : Claim7 := { stood := { row := treeBackUptoRow, standIns := [], harness := (true, "c6cd36a5c1cb2deb1b757e2132e91b33216a9ad97ba4e647d655f4d2dc3ecefb"), looks := false }, kinds := [], alts := [], laidByText := true, laidKinds := [.data, .pinned], laidTests := true, laidLooks := .later }
def TreeBackUptoCardSaid : Prop := Claim7.holds Tryd.pinned (.plain (OpenSpec.upto treeBackSpec)) treeBackUptoCard

/-- THE SECOND FORM's CARD OF 'codesearchlaw25.TreeKeeps'. -/
def treeKeepsUptoCard : Claim7 := { stood := { row := treeKeepsUptoRow, standIns := [], harness := (true, "c6cd36a5c1cb2deb1b757e2132e91b33216a9ad97ba4e647d655f4d2dc3ecefb"), looks := false }, kinds := [], alts := [], laidByText := true, laidKinds := [.data, .pinned], laidTests := true, laidLooks := .later }
def TreeKeepsUptoCardSaid : Prop := Claim7.holds Tryd.pinned (.plain (OpenSpec.upto treeKeepsSpec)) treeKeepsUptoCard
end Rows
end Go.Proofs.YtpnhamfodjfacaaDoor
