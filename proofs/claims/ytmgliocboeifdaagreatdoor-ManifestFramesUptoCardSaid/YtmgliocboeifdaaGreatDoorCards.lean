/-
  DERIVED. GIVEN WITH THE SEED: THE CARDS: each row of YtmgliocboeifdaaGreatDoorRows.lean that lists a variable, with what it lists TIED to the program's text (the seventh form; the later family's looks); each row that meets fmt, with fmt's text TOLD by the authors' own Lean function (tested against real Go, not proved from fmt's source: count such statements apart). THE CARD IS WHAT COUNTS. Prove the row's statement (the work); the ties are given (YtmgliocboeifdaaGreatDoorTie.lean); close each card by the builder's one call (the guide's Derived/Test/ToyasCard.lean, 'card_holds'). Laid BY PROGRAM, IN A SANDBOX (cutbox-door.mjs). By AI agents, Wed Nov 11 2026. No macro, syntax, notation, axiom, sorry.
-/
import Derived.Test.YtmgliocboeifdaaGreatDoorRows
import GoSem.ClaimSeven
namespace Go.Proofs.YtmgliocboeifdaaGreatDoor
namespace Rows

/-- THE TIED CARD OF 'codesearchlaw33.ManifestRights'. -/
def manifestRightsCard : Claim7 := { stood := { row := manifestRightsRow, standIns := [], harness := (true, "7675bad591f463abed2a06050b2ad857faf43233dd33fb9d75d8c774cc0d9ce4"), looks := false }, kinds := [], alts := [], laidByText := true, laidKinds := [.data, .pinned], laidTests := true, laidLooks := .later }
def ManifestRightsCardSaid : Prop := Claim7.holds Tryz.pinned (.plain (OpenSpec.ofChange manifestRightsSpec)) manifestRightsCard

/-- THE TIED CARD OF 'codesearchlaw33.ManifestBytes'. -/
def manifestBytesCard : Claim7 := { stood := { row := manifestBytesRow, standIns := [], harness := (true, "7675bad591f463abed2a06050b2ad857faf43233dd33fb9d75d8c774cc0d9ce4"), looks := false }, kinds := [], alts := [], laidByText := true, laidKinds := [.data, .pinned], laidTests := true, laidLooks := .later }
def ManifestBytesCardSaid : Prop := Claim7.holds Tryz.pinned (.plain (OpenSpec.ofChange manifestBytesSpec)) manifestBytesCard

/-- THE TIED CARD OF 'codesearchlaw33.ManifestFrames'. -/
def manifestFramesCard : Claim7 := { stood := { row := manifestFramesRow, standIns := [], harness := (true, "7675bad591f463abed2a06050b2ad857faf43233dd33fb9d75d8c774cc0d9ce4"), looks := false }, kinds := [], alts := [], laidByText := true, laidKinds := [.data, .pinned], laidTests := true, laidLooks := .later }
def ManifestFramesCardSaid : Prop := Claim7.holds Tryz.pinned (.plain (OpenSpec.ofChange manifestFramesSpec)) manifestFramesCard

/-- THE SECOND FORM's CARD OF 'codesearchlaw33.ManifestRights'. -/
def manifestRightsUptoCard : Claim7 := { stood := { row := manifestRightsUptoRow, standIns := [], harness := (true, "7675bad591f463abed2a06050b2ad857faf43233dd33fb9d75d8c774cc0d9ce4"), looks := false }, kinds := [], alts := [], laidByText := true, laidKinds := [.data, .pinned], laidTests := true, laidLooks := .later }
def ManifestRightsUptoCardSaid : Prop := Claim7.holds Tryz.pinned (.plain (OpenSpec.upto manifestRightsSpec)) manifestRightsUptoCard

/-- THE SECOND FORM's CARD OF 'codesearchlaw33.ManifestBytes'. -/
def manifestBytesUptoCard : Claim7 := { stood := { row := manifestBytesUptoRow, standIns := [], harness := (true, "7675bad591f463abed2a06050b2ad857faf43233dd33fb9d75d8c774cc0d9ce4"), looks := false }, kinds := [], alts := [], laidByText := true, laidKinds := [.data, .pinned], laidTests := true, laidLooks := .later }
def ManifestBytesUptoCardSaid : Prop := Claim7.holds Tryz.pinned (.plain (OpenSpec.upto manifestBytesSpec)) manifestBytesUptoCard

/-- THE SECOND FORM's CARD OF 'codesearchlaw33.ManifestFrames'. -/
def manifestFramesUptoCard : Claim7 := { stood := { row := manifestFramesUptoRow, standIns := [], harness := (true, "7675bad591f463abed2a06050b2ad857faf43233dd33fb9d75d8c774cc0d9ce4"), looks := false }, kinds := [], alts := [], laidByText := true, laidKinds := [.data, .pinned], laidTests := true, laidLooks := .later }
def ManifestFramesUptoCardSaid : Prop := Claim7.holds Tryz.pinned (.plain (OpenSpec.upto manifestFramesSpec)) manifestFramesUptoCard
end Rows
end Go.Proofs.YtmgliocboeifdaaGreatDoor
