/-
  DERIVED. GIVEN WITH THE SEED: THE CARDS: each row of YtobdkgoapcbipaaGreatDoorRows.lean that lists a variable, with what it lists TIED to the program's text (the seventh form; the later family's looks); each row that meets fmt, with fmt's text TOLD by the authors' own Lean function (tested against real Go, not proved from fmt's source: count such statements apart). THE CARD IS WHAT COUNTS. Prove the row's statement (the work); the ties are given (YtobdkgoapcbipaaGreatDoorTie.lean); close each card by the builder's one call (the guide's Derived/Test/ToyasCard.lean, 'card_holds'). Laid BY PROGRAM, IN A SANDBOX (cutbox-door.mjs). By AI agents, Wed Nov 11 2026. No macro, syntax, notation, axiom, sorry.
-/
import Derived.Test.YtobdkgoapcbipaaGreatDoorRows
import GoSem.ClaimSeven
namespace Go.Proofs.YtobdkgoapcbipaaGreatDoor
namespace Rows

/-- THE TIED CARD OF 'codesearchlaw43.GroupChecks'. -/
def groupChecksCard : Claim7 := { stood := { row := groupChecksRow, standIns := [], harness := (true, "3fa2a23ab78dc74ae7f8795b04f25f3e1bb20e6c255c8e663b590df23dd85904"), looks := false }, kinds := [], alts := [], laidByText := true, laidKinds := [.data, .pinned], laidTests := true, laidLooks := .later }
def GroupChecksCardSaid : Prop := Claim7.holds Tryz.pinned (.plain (OpenSpec.ofChange groupChecksSpec)) groupChecksCard

/-- THE TIED CARD OF 'codesearchlaw43.GroupAsks'. -/
def groupAsksCard : Claim7 := { stood := { row := groupAsksRow, standIns := [], harness := (true, "3fa2a23ab78dc74ae7f8795b04f25f3e1bb20e6c255c8e663b590df23dd85904"), looks := false }, kinds := [], alts := [], laidByText := true, laidKinds := [.data, .pinned], laidTests := true, laidLooks := .later }
def GroupAsksCardSaid : Prop := Claim7.holds Tryz.pinned (.plain (OpenSpec.ofChange groupAsksSpec)) groupAsksCard

/-- THE TIED CARD OF 'codesearchlaw43.GroupSets'. -/
def groupSetsCard : Claim7 := { stood := { row := groupSetsRow, standIns := [], harness := (true, "3fa2a23ab78dc74ae7f8795b04f25f3e1bb20e6c255c8e663b590df23dd85904"), looks := false }, kinds := [], alts := [], laidByText := true, laidKinds := [.data, .pinned], laidTests := true, laidLooks := .later }
def GroupSetsCardSaid : Prop := Claim7.holds Tryz.pinned (.plain (OpenSpec.ofChange groupSetsSpec)) groupSetsCard

/-- THE TIED CARD OF 'codesearchlaw43.GroupClosed'. -/
def groupClosedCard : Claim7 := { stood := { row := groupClosedRow, standIns := [], harness := (true, "3fa2a23ab78dc74ae7f8795b04f25f3e1bb20e6c255c8e663b590df23dd85904"), looks := false }, kinds := [], alts := [], laidByText := true, laidKinds := [.data, .pinned], laidTests := true, laidLooks := .later }
def GroupClosedCardSaid : Prop := Claim7.holds Tryz.pinned (.plain (OpenSpec.ofChange groupClosedSpec)) groupClosedCard

/-- THE TIED CARD OF 'codesearchlaw43.GroupSteady'. -/
def groupSteadyCard : Claim7 := { stood := { row := groupSteadyRow, standIns := [], harness := (true, "3fa2a23ab78dc74ae7f8795b04f25f3e1bb20e6c255c8e663b590df23dd85904"), looks := false }, kinds := [], alts := [], laidByText := true, laidKinds := [.data, .pinned], laidTests := true, laidLooks := .later }
def GroupSteadyCardSaid : Prop := Claim7.holds Tryz.pinned (.plain (OpenSpec.ofChange groupSteadySpec)) groupSteadyCard

/-- THE TIED CARD OF 'codesearchlaw43.GroupLevels'. -/
def groupLevelsCard : Claim7 := { stood := { row := groupLevelsRow, standIns := [], harness := (true, "3fa2a23ab78dc74ae7f8795b04f25f3e1bb20e6c255c8e663b590df23dd85904"), looks := false }, kinds := [], alts := [], laidByText := true, laidKinds := [.data, .pinned], laidTests := true, laidLooks := .later }
def GroupLevelsCardSaid : Prop := Claim7.holds Tryz.pinned (.plain (OpenSpec.ofChange groupLevelsSpec)) groupLevelsCard

/-- THE SECOND FORM's CARD OF 'codesearchlaw43.GroupChecks'. -/
def groupChecksUptoCard : Claim7 := { stood := { row := groupChecksUptoRow, standIns := [], harness := (true, "3fa2a23ab78dc74ae7f8795b04f25f3e1bb20e6c255c8e663b590df23dd85904"), looks := false }, kinds := [], alts := [], laidByText := true, laidKinds := [.data, .pinned], laidTests := true, laidLooks := .later }
def GroupChecksUptoCardSaid : Prop := Claim7.holds Tryz.pinned (.plain (OpenSpec.upto groupChecksSpec)) groupChecksUptoCard

/-- THE SECOND FORM's CARD OF 'codesearchlaw43.GroupAsks'. -/
def groupAsksUptoCard : Claim7 := { stood := { row := groupAsksUptoRow, standIns := [], harness := (true, "3fa2a23ab78dc74ae7f8795b04f25f3e1bb20e6c255c8e663b590df23dd85904"), looks := false }, kinds := [], alts := [], laidByText := true, laidKinds := [.data, .pinned], laidTests := true, laidLooks := .later }
def GroupAsksUptoCardSaid : Prop := Claim7.holds Tryz.pinned (.plain (OpenSpec.upto groupAsksSpec)) groupAsksUptoCard

/-- THE SECOND FORM's CARD OF 'codesearchlaw43.GroupSets'. -/
def groupSetsUptoCard : Claim7 := { stood := { row := groupSetsUptoRow, standIns := [], harness := (true, "3fa2a23ab78dc74ae7f8795b04f25f3e1bb20e6c255c8e663b590df23dd85904"), looks := false }, kinds := [], alts := [], laidByText := true, laidKinds := [.data, .pinned], laidTests := true, laidLooks := .later }
def GroupSetsUptoCardSaid : Prop := Claim7.holds Tryz.pinned (.plain (OpenSpec.upto groupSetsSpec)) groupSetsUptoCard

/-- THE SECOND FORM's CARD OF 'codesearchlaw43.GroupClosed'. -/
def groupClosedUptoCard : Claim7 := { stood := { row := groupClosedUptoRow, standIns := [], harness := (true, "3fa2a23ab78dc74ae7f8795b04f25f3e1bb20e6c255c8e663b590df23dd85904"), looks := false }, kinds := [], alts := [], laidByText := true, laidKinds := [.data, .pinned], laidTests := true, laidLooks := .later }
def GroupClosedUptoCardSaid : Prop := Claim7.holds Tryz.pinned (.plain (OpenSpec.upto groupClosedSpec)) groupClosedUptoCard

/-- THE SECOND FORM's CARD OF 'codesearchlaw43.GroupSteady'. -/
def groupSteadyUptoCard : Claim7 := { stood := { row := groupSteadyUptoRow, standIns := [], harness := (true, "3fa2a23ab78dc74ae7f8795b04f25f3e1bb20e6c255c8e663b590df23dd85904"), looks := false }, kinds := [], alts := [], laidByText := true, laidKinds := [.data, .pinned], laidTests := true, laidLooks := .later }
def GroupSteadyUptoCardSaid : Prop := Claim7.holds Tryz.pinned (.plain (OpenSpec.upto groupSteadySpec)) groupSteadyUptoCard

/-- THE SECOND FORM's CARD OF 'codesearchlaw43.GroupLevels'. -/
def groupLevelsUptoCard : Claim7 := { stood := { row := groupLevelsUptoRow, standIns := [], harness := (true, "3fa2a23ab78dc74ae7f8795b04f25f3e1bb20e6c255c8e663b590df23dd85904"), looks := false }, kinds := [], alts := [], laidByText := true, laidKinds := [.data, .pinned], laidTests := true, laidLooks := .later }
def GroupLevelsUptoCardSaid : Prop := Claim7.holds Tryz.pinned (.plain (OpenSpec.upto groupLevelsSpec)) groupLevelsUptoCard
end Rows
end Go.Proofs.YtobdkgoapcbipaaGreatDoor
