/-
  DERIVED. GIVEN WITH THE SEED: THE CARDS: each row of YtfcgadokmbooaaaDoorRows.lean that lists a variable, with what it lists TIED to the program's text (the seventh form; the later family's looks); each row that meets fmt, with fmt's text TOLD by the authors' own Lean function (tested against real Go, not proved from fmt's source: count such statements apart). THE CARD IS WHAT COUNTS. Prove the row's statement (the work); the ties are given (YtfcgadokmbooaaaDoorTie.lean); close each card by the builder's one call (the guide's Derived/Test/ToyasCard.lean, 'card_holds'). Laid BY PROGRAM, IN A SANDBOX (cutbox-door.mjs). By AI agents, Wed Nov 11 2026. No macro, syntax, notation, axiom, sorry.
-/
import Derived.Test.YtfcgadokmbooaaaDoorRows
import GoSem.ClaimSeven
namespace Go.Proofs.YtfcgadokmbooaaaDoor
namespace Rows

/-- THE TIED CARD OF 'laws.FnExactFirstField'. -/
def fnExactFirstFieldCard : Claim7 := { stood := { row := fnExactFirstFieldRow, standIns := [], harness := (true, "49a0476dd0fff5507f7941e5a510a32bcbba70ff45d72c54ad331bc338ad0272"), looks := false }, kinds := [], alts := [], laidByText := true, laidKinds := [.data, .pinned], laidTests := true, laidLooks := .later }
def FnExactFirstFieldCardSaid : Prop := Claim7.holds Tryd.pinned (.plain (OpenSpec.ofChange fnExactFirstFieldSpec)) fnExactFirstFieldCard

/-- THE TIED CARD OF 'laws.FnExactFieldAt'. -/
def fnExactFieldAtCard : Claim7 := { stood := { row := fnExactFieldAtRow, standIns := [], harness := (true, "49a0476dd0fff5507f7941e5a510a32bcbba70ff45d72c54ad331bc338ad0272"), looks := false }, kinds := [], alts := [], laidByText := true, laidKinds := [.data, .pinned], laidTests := true, laidLooks := .later }
def FnExactFieldAtCardSaid : Prop := Claim7.holds Tryd.pinned (.plain (OpenSpec.ofChange fnExactFieldAtSpec)) fnExactFieldAtCard

/-- THE TIED CARD OF 'laws.FnExactFindField'. -/
def fnExactFindFieldCard : Claim7 := { stood := { row := fnExactFindFieldRow, standIns := [], harness := (true, "49a0476dd0fff5507f7941e5a510a32bcbba70ff45d72c54ad331bc338ad0272"), looks := false }, kinds := [], alts := [], laidByText := true, laidKinds := [.data, .pinned], laidTests := true, laidLooks := .later }
def FnExactFindFieldCardSaid : Prop := Claim7.holds Tryd.pinned (.plain (OpenSpec.ofChange fnExactFindFieldSpec)) fnExactFindFieldCard

/-- THE TIED CARD OF 'laws.FnFound'. -/
def fnFoundCard : Claim7 := { stood := { row := fnFoundRow, standIns := [], harness := (true, "49a0476dd0fff5507f7941e5a510a32bcbba70ff45d72c54ad331bc338ad0272"), looks := false }, kinds := [], alts := [], laidByText := true, laidKinds := [.data, .pinned], laidTests := true, laidLooks := .later }
def FnFoundCardSaid : Prop := Claim7.holds Tryd.pinned (.plain (OpenSpec.ofChange fnFoundSpec)) fnFoundCard

/-- THE TIED CARD OF 'laws.FnTables'. -/
def fnTablesCard : Claim7 := { stood := { row := fnTablesRow, standIns := [], harness := (true, "49a0476dd0fff5507f7941e5a510a32bcbba70ff45d72c54ad331bc338ad0272"), looks := false }, kinds := [], alts := [], laidByText := true, laidKinds := [.data, .pinned], laidTests := true, laidLooks := .later }
def FnTablesCardSaid : Prop := Claim7.holds Tryd.pinned (.plain (OpenSpec.ofChange fnTablesSpec)) fnTablesCard

/-- THE SECOND FORM's CARD OF 'laws.FnExactFirstField'. -/
def fnExactFirstFieldUptoCard : Claim7 := { stood := { row := fnExactFirstFieldUptoRow, standIns := [], harness := (true, "49a0476dd0fff5507f7941e5a510a32bcbba70ff45d72c54ad331bc338ad0272"), looks := false }, kinds := [], alts := [], laidByText := true, laidKinds := [.data, .pinned], laidTests := true, laidLooks := .later }
def FnExactFirstFieldUptoCardSaid : Prop := Claim7.holds Tryd.pinned (.plain (OpenSpec.upto fnExactFirstFieldSpec)) fnExactFirstFieldUptoCard

/-- THE SECOND FORM's CARD OF 'laws.FnExactFieldAt'. -/
def fnExactFieldAtUptoCard : Claim7 := { stood := { row := fnExactFieldAtUptoRow, standIns := [], harness := (true, "49a0476dd0fff5507f7941e5a510a32bcbba70ff45d72c54ad331bc338ad0272"), looks := false }, kinds := [], alts := [], laidByText := true, laidKinds := [.data, .pinned], laidTests := true, laidLooks := .later }
def FnExactFieldAtUptoCardSaid : Prop := Claim7.holds Tryd.pinned (.plain (OpenSpec.upto fnExactFieldAtSpec)) fnExactFieldAtUptoCard

/-- THE SECOND FORM's CARD OF 'laws.FnExactFindField'. -/
def fnExactFindFieldUptoCard : Claim7 := { stood := { row := fnExactFindFieldUptoRow, standIns := [], harness := (true, "49a0476dd0fff5507f7941e5a510a32bcbba70ff45d72c54ad331bc338ad0272"), looks := false }, kinds := [], alts := [], laidByText := true, laidKinds := [.data, .pinned], laidTests := true, laidLooks := .later }
def FnExactFindFieldUptoCardSaid : Prop := Claim7.holds Tryd.pinned (.plain (OpenSpec.upto fnExactFindFieldSpec)) fnExactFindFieldUptoCard

/-- THE SECOND FORM's CARD OF 'laws.FnFound'. -/
def fnFoundUptoCard : Claim7 := { stood := { row := fnFoundUptoRow, standIns := [], harness := (true, "49a0476dd0fff5507f7941e5a510a32bcbba70ff45d72c54ad331bc338ad0272"), looks := false }, kinds := [], alts := [], laidByText := true, laidKinds := [.data, .pinned], laidTests := true, laidLooks := .later }
def FnFoundUptoCardSaid : Prop := Claim7.holds Tryd.pinned (.plain (OpenSpec.upto fnFoundSpec)) fnFoundUptoCard

/-- THE SECOND FORM's CARD OF 'laws.FnTables'. -/
def fnTablesUptoCard : Claim7 := { stood := { row := fnTablesUptoRow, standIns := [], harness := (true, "49a0476dd0fff5507f7941e5a510a32bcbba70ff45d72c54ad331bc338ad0272"), looks := false }, kinds := [], alts := [], laidByText := true, laidKinds := [.data, .pinned], laidTests := true, laidLooks := .later }
def FnTablesUptoCardSaid : Prop := Claim7.holds Tryd.pinned (.plain (OpenSpec.upto fnTablesSpec)) fnTablesUptoCard
end Rows
end Go.Proofs.YtfcgadokmbooaaaDoor
