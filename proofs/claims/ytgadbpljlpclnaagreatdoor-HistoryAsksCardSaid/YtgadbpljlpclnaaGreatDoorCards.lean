/-
  DERIVED. GIVEN WITH THE SEED: THE CARDS: each row of YtgadbpljlpclnaaGreatDoorRows.lean that lists a variable, with what it lists TIED to the program's text (the seventh form; the later family's looks); each row that meets fmt, with fmt's text TOLD by the authors' own Lean function (tested against real Go, not proved from fmt's source: count such statements apart). THE CARD IS WHAT COUNTS. Prove the row's statement (the work); the ties are given (YtgadbpljlpclnaaGreatDoorTie.lean); close each card by the builder's one call (the guide's Derived/Test/ToyasCard.lean, 'card_holds'). Laid BY PROGRAM, IN A SANDBOX (cutbox-door.mjs). By AI agents, Wed Nov 11 2026. No macro, syntax, notation, axiom, sorry.
-/
import Derived.Test.YtgadbpljlpclnaaGreatDoorRows
import GoSem.ClaimSeven
namespace Go.Proofs.YtgadbpljlpclnaaGreatDoor
namespace Rows

/-- THE TIED CARD OF 'codesearchlaw26.HistoryChecks'. -/
def historyChecksCard : Claim7 := { stood := { row := historyChecksRow, standIns := [], harness := (true, "1138f508c08dd45f5e729e207b50fa4bface96884ad05064f382dfd6cd1d785b"), looks := false }, kinds := [], alts := [], laidByText := true, laidKinds := [.data, .pinned], laidTests := true, laidLooks := .later }
def HistoryChecksCardSaid : Prop := Claim7.holds Tryz.pinned (.plain (OpenSpec.ofChange historyChecksSpec)) historyChecksCard

/-- THE TIED CARD OF 'codesearchlaw26.HistoryFiles'. -/
def historyFilesCard : Claim7 := { stood := { row := historyFilesRow, standIns := [], harness := (true, "1138f508c08dd45f5e729e207b50fa4bface96884ad05064f382dfd6cd1d785b"), looks := false }, kinds := [], alts := [], laidByText := true, laidKinds := [.data, .pinned], laidTests := true, laidLooks := .later }
def HistoryFilesCardSaid : Prop := Claim7.holds Tryz.pinned (.plain (OpenSpec.ofChange historyFilesSpec)) historyFilesCard

/-- THE TIED CARD OF 'codesearchlaw26.HistoryAsks'. -/
def historyAsksCard : Claim7 := { stood := { row := historyAsksRow, standIns := [], harness := (true, "1138f508c08dd45f5e729e207b50fa4bface96884ad05064f382dfd6cd1d785b"), looks := false }, kinds := [], alts := [], laidByText := true, laidKinds := [.data, .pinned], laidTests := true, laidLooks := .later }
def HistoryAsksCardSaid : Prop := Claim7.holds Tryz.pinned (.plain (OpenSpec.ofChange historyAsksSpec)) historyAsksCard

/-- THE TIED CARD OF 'codesearchlaw26.HistoryBetween'. -/
def historyBetweenCard : Claim7 := { stood := { row := historyBetweenRow, standIns := [], harness := (true, "1138f508c08dd45f5e729e207b50fa4bface96884ad05064f382dfd6cd1d785b"), looks := false }, kinds := [], alts := [], laidByText := true, laidKinds := [.data, .pinned], laidTests := true, laidLooks := .later }
def HistoryBetweenCardSaid : Prop := Claim7.holds Tryz.pinned (.plain (OpenSpec.ofChange historyBetweenSpec)) historyBetweenCard

/-- THE TIED CARD OF 'codesearchlaw26.HistoryOrder'. -/
def historyOrderCard : Claim7 := { stood := { row := historyOrderRow, standIns := [], harness := (true, "1138f508c08dd45f5e729e207b50fa4bface96884ad05064f382dfd6cd1d785b"), looks := false }, kinds := [], alts := [], laidByText := true, laidKinds := [.data, .pinned], laidTests := true, laidLooks := .later }
def HistoryOrderCardSaid : Prop := Claim7.holds Tryz.pinned (.plain (OpenSpec.ofChange historyOrderSpec)) historyOrderCard

/-- THE TIED CARD OF 'codesearchlaw26.HistoryBases'. -/
def historyBasesCard : Claim7 := { stood := { row := historyBasesRow, standIns := [], harness := (true, "1138f508c08dd45f5e729e207b50fa4bface96884ad05064f382dfd6cd1d785b"), looks := false }, kinds := [], alts := [], laidByText := true, laidKinds := [.data, .pinned], laidTests := true, laidLooks := .later }
def HistoryBasesCardSaid : Prop := Claim7.holds Tryz.pinned (.plain (OpenSpec.ofChange historyBasesSpec)) historyBasesCard

/-- THE TIED CARD OF 'codesearchlaw26.HistoryChanges'. -/
def historyChangesCard : Claim7 := { stood := { row := historyChangesRow, standIns := [], harness := (true, "1138f508c08dd45f5e729e207b50fa4bface96884ad05064f382dfd6cd1d785b"), looks := false }, kinds := [], alts := [], laidByText := true, laidKinds := [.data, .pinned], laidTests := true, laidLooks := .later }
def HistoryChangesCardSaid : Prop := Claim7.holds Tryz.pinned (.plain (OpenSpec.ofChange historyChangesSpec)) historyChangesCard

/-- THE SECOND FORM's CARD OF 'codesearchlaw26.HistoryChecks'. -/
def historyChecksUptoCard : Claim7 := { stood := { row := historyChecksUptoRow, standIns := [], harness := (true, "1138f508c08dd45f5e729e207b50fa4bface96884ad05064f382dfd6cd1d785b"), looks := false }, kinds := [], alts := [], laidByText := true, laidKinds := [.data, .pinned], laidTests := true, laidLooks := .later }
def HistoryChecksUptoCardSaid : Prop := Claim7.holds Tryz.pinned (.plain (OpenSpec.upto historyChecksSpec)) historyChecksUptoCard

/-- THE SECOND FORM's CARD OF 'codesearchlaw26.HistoryFiles'. -/
def historyFilesUptoCard : Claim7 := { stood := { row := historyFilesUptoRow, standIns := [], harness := (true, "1138f508c08dd45f5e729e207b50fa4bface96884ad05064f382dfd6cd1d785b"), looks := false }, kinds := [], alts := [], laidByText := true, laidKinds := [.data, .pinned], laidTests := true, laidLooks := .later }
def HistoryFilesUptoCardSaid : Prop := Claim7.holds Tryz.pinned (.plain (OpenSpec.upto historyFilesSpec)) historyFilesUptoCard

/-- THE SECOND FORM's CARD OF 'codesearchlaw26.HistoryAsks'. -/
def historyAsksUptoCard : Claim7 := { stood := { row := historyAsksUptoRow, standIns := [], harness := (true, "1138f508c08dd45f5e729e207b50fa4bface96884ad05064f382dfd6cd1d785b"), looks := false }, kinds := [], alts := [], laidByText := true, laidKinds := [.data, .pinned], laidTests := true, laidLooks := .later }
def HistoryAsksUptoCardSaid : Prop := Claim7.holds Tryz.pinned (.plain (OpenSpec.upto historyAsksSpec)) historyAsksUptoCard

/-- THE SECOND FORM's CARD OF 'codesearchlaw26.HistoryBetween'. -/
def historyBetweenUptoCard : Claim7 := { stood := { row := historyBetweenUptoRow, standIns := [], harness := (true, "1138f508c08dd45f5e729e207b50fa4bface96884ad05064f382dfd6cd1d785b"), looks := false }, kinds := [], alts := [], laidByText := true, laidKinds := [.data, .pinned], laidTests := true, laidLooks := .later }
def HistoryBetweenUptoCardSaid : Prop := Claim7.holds Tryz.pinned (.plain (OpenSpec.upto historyBetweenSpec)) historyBetweenUptoCard

/-- THE SECOND FORM's CARD OF 'codesearchlaw26.HistoryOrder'. -/
def historyOrderUptoCard : Claim7 := { stood := { row := historyOrderUptoRow, standIns := [], harness := (true, "1138f508c08dd45f5e729e207b50fa4bface96884ad05064f382dfd6cd1d785b"), looks := false }, kinds := [], alts := [], laidByText := true, laidKinds := [.data, .pinned], laidTests := true, laidLooks := .later }
def HistoryOrderUptoCardSaid : Prop := Claim7.holds Tryz.pinned (.plain (OpenSpec.upto historyOrderSpec)) historyOrderUptoCard

/-- THE SECOND FORM's CARD OF 'codesearchlaw26.HistoryBases'. -/
def historyBasesUptoCard : Claim7 := { stood := { row := historyBasesUptoRow, standIns := [], harness := (true, "1138f508c08dd45f5e729e207b50fa4bface96884ad05064f382dfd6cd1d785b"), looks := false }, kinds := [], alts := [], laidByText := true, laidKinds := [.data, .pinned], laidTests := true, laidLooks := .later }
def HistoryBasesUptoCardSaid : Prop := Claim7.holds Tryz.pinned (.plain (OpenSpec.upto historyBasesSpec)) historyBasesUptoCard

/-- THE SECOND FORM's CARD OF 'codesearchlaw26.HistoryChanges'. -/
def historyChangesUptoCard : Claim7 := { stood := { row := historyChangesUptoRow, standIns := [], harness := (true, "1138f508c08dd45f5e729e207b50fa4bface96884ad05064f382dfd6cd1d785b"), looks := false }, kinds := [], alts := [], laidByText := true, laidKinds := [.data, .pinned], laidTests := true, laidLooks := .later }
def HistoryChangesUptoCardSaid : Prop := Claim7.holds Tryz.pinned (.plain (OpenSpec.upto historyChangesSpec)) historyChangesUptoCard
end Rows
end Go.Proofs.YtgadbpljlpclnaaGreatDoor
