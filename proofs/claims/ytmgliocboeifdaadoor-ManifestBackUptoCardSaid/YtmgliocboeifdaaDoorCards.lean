/-
  DERIVED. GIVEN WITH THE SEED: THE CARDS: each row of YtmgliocboeifdaaDoorRows.lean that lists a variable, with what it lists TIED to the program's text (the seventh form; the later family's looks); each row that meets fmt, with fmt's text TOLD by the authors' own Lean function (tested against real Go, not proved from fmt's source: count such statements apart). THE CARD IS WHAT COUNTS. Prove the row's statement (the work); the ties are given (YtmgliocboeifdaaDoorTie.lean); close each card by the builder's one call (the guide's Derived/Test/ToyasCard.lean, 'card_holds'). Laid BY PROGRAM, IN A SANDBOX (cutbox-door.mjs). By AI agents, Wed Nov 11 2026. No macro, syntax, notation, axiom, sorry.
-/
import Derived.Test.YtmgliocboeifdaaDoorRows
import GoSem.ClaimSeven
namespace Go.Proofs.YtmgliocboeifdaaDoor
namespace Rows

/-- THE TIED CARD OF 'codesearchlaw33.ManifestStates'. -/
def manifestStatesCard : Claim7 := { stood := { row := manifestStatesRow, standIns := [], harness := (true, "03275375477abcf12d8edad1b8f481023aebd9c6ac4354d0db82a416497bbbdc"), looks := false }, kinds := [], alts := [], laidByText := true, laidKinds := [.data, .pinned], laidTests := true, laidLooks := .later }
def ManifestStatesCardSaid : Prop := Claim7.holds Tryd.pinned (.plain (OpenSpec.ofChange manifestStatesSpec)) manifestStatesCard

/-- THE TIED CARD OF 'codesearchlaw33.ManifestTorn'. -/
def manifestTornCard : Claim7 := { stood := { row := manifestTornRow, standIns := [], harness := (true, "03275375477abcf12d8edad1b8f481023aebd9c6ac4354d0db82a416497bbbdc"), looks := false }, kinds := [], alts := [], laidByText := true, laidKinds := [.data, .pinned], laidTests := true, laidLooks := .later }
def ManifestTornCardSaid : Prop := Claim7.holds Tryd.pinned (.plain (OpenSpec.ofChange manifestTornSpec)) manifestTornCard

/-- THE TIED CARD OF 'codesearchlaw33.ManifestBack'. -/
def manifestBackCard : Claim7 := { stood := { row := manifestBackRow, standIns := [], harness := (true, "03275375477abcf12d8edad1b8f481023aebd9c6ac4354d0db82a416497bbbdc"), looks := false }, kinds := [], alts := [], laidByText := true, laidKinds := [.data, .pinned], laidTests := true, laidLooks := .later }
def ManifestBackCardSaid : Prop := Claim7.holds Tryd.pinned (.plain (OpenSpec.ofChange manifestBackSpec)) manifestBackCard

/-- THE TIED CARD OF 'codesearchlaw33.ManifestStarts'. -/
def manifestStartsCard : Claim7 := { stood := { row := manifestStartsRow, standIns := [], harness := (true, "03275375477abcf12d8edad1b8f481023aebd9c6ac4354d0db82a416497bbbdc"), looks := false }, kinds := [], alts := [], laidByText := true, laidKinds := [.data, .pinned], laidTests := true, laidLooks := .later }
def ManifestStartsCardSaid : Prop := Claim7.holds Tryd.pinned (.plain (OpenSpec.ofChange manifestStartsSpec)) manifestStartsCard

/-- THE SECOND FORM's CARD OF 'codesearchlaw33.ManifestStates'. -/
def manifestStatesUptoCard : Claim7 := { stood := { row := manifestStatesUptoRow, standIns := [], harness := (true, "03275375477abcf12d8edad1b8f481023aebd9c6ac4354d0db82a416497bbbdc"), looks := false }, kinds := [], alts := [], laidByText := true, laidKinds := [.data, .pinned], laidTests := true, laidLooks := .later }
def ManifestStatesUptoCardSaid : Prop := Claim7.holds Tryd.pinned (.plain (OpenSpec.upto manifestStatesSpec)) manifestStatesUptoCard

/-- THE SECOND FORM's CARD OF 'codesearchlaw33.ManifestTorn'. -/
def manifestTornUptoCard : Claim7 := { stood := { row := manifestTornUptoRow, standIns := [], harness := (true, "03275375477abcf12d8edad1b8f481023aebd9c6ac4354d0db82a416497bbbdc"), looks := false }, kinds := [], alts := [], laidByText := true, laidKinds := [.data, .pinned], laidTests := true, laidLooks := .later }
def ManifestTornUptoCardSaid : Prop := Claim7.holds Tryd.pinned (.plain (OpenSpec.upto manifestTornSpec)) manifestTornUptoCard

/-- THE SECOND FORM's CARD OF 'codesearchlaw33.ManifestBack'. -/
def manifestBackUptoCard : Claim7 := { stood := { row := manifestBackUptoRow, standIns := [], harness := (true, "03275375477abcf12d8edad1b8f481023aebd9c6ac4354d0db82a416497bbbdc"), looks := false }, kinds := [], alts := [], laidByText := true, laidKinds := [.data, .pinned], laidTests := true, laidLooks := .later }
def ManifestBackUptoCardSaid : Prop := Claim7.holds Tryd.pinned (.plain (OpenSpec.upto manifestBackSpec)) manifestBackUptoCard

/-- THE SECOND FORM's CARD OF 'codesearchlaw33.ManifestStarts'. -/
def manifestStartsUptoCard : Claim7 := { stood := { row := manifestStartsUptoRow, standIns := [], harness := (true, "03275375477abcf12d8edad1b8f481023aebd9c6ac4354d0db82a416497bbbdc"), looks := false }, kinds := [], alts := [], laidByText := true, laidKinds := [.data, .pinned], laidTests := true, laidLooks := .later }
def ManifestStartsUptoCardSaid : Prop := Claim7.holds Tryd.pinned (.plain (OpenSpec.upto manifestStartsSpec)) manifestStartsUptoCard
end Rows
end Go.Proofs.YtmgliocboeifdaaDoor
