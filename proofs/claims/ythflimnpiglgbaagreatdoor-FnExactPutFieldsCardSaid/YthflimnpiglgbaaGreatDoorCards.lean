/-
  DERIVED. GIVEN WITH THE SEED: THE CARDS: each row of YthflimnpiglgbaaGreatDoorRows.lean that lists a variable, with what it lists TIED to the program's text (the seventh form; the later family's looks); each row that meets fmt, with fmt's text TOLD by the authors' own Lean function (tested against real Go, not proved from fmt's source: count such statements apart). THE CARD IS WHAT COUNTS. Prove the row's statement (the work); the ties are given (YthflimnpiglgbaaGreatDoorTie.lean); close each card by the builder's one call (the guide's Derived/Test/ToyasCard.lean, 'card_holds'). Laid BY PROGRAM, IN A SANDBOX (cutbox-door.mjs). By AI agents, Wed Nov 11 2026. No macro, syntax, notation, axiom, sorry.
-/
import Derived.Test.YthflimnpiglgbaaGreatDoorRows
import GoSem.ClaimSeven
namespace Go.Proofs.YthflimnpiglgbaaGreatDoor
namespace Rows

/-- THE TIED CARD OF 'laws.FnExactPutField'. -/
def fnExactPutFieldCard : Claim7 := { stood := { row := fnExactPutFieldRow, standIns := [], harness := (true, "4be2df530e6e952150ca36aac7624be81e3069ca14346cf7c2adc2c82d6cd4c6"), looks := true }, kinds := [], alts := [], laidByText := true, laidKinds := [.data, .data, .data, .data, .sentinel, .sentinel, .pinned], laidTests := true, laidLooks := .later }
def FnExactPutFieldCardSaid : Prop := Claim7.holds Tryz.pinned (.plain (OpenSpec.ofChange fnExactPutFieldSpec)) fnExactPutFieldCard

/-- THE TIED CARD OF 'laws.FnExactPutFields'. -/
def fnExactPutFieldsCard : Claim7 := { stood := { row := fnExactPutFieldsRow, standIns := [], harness := (true, "4be2df530e6e952150ca36aac7624be81e3069ca14346cf7c2adc2c82d6cd4c6"), looks := true }, kinds := [], alts := [], laidByText := true, laidKinds := [.data, .data, .data, .data, .sentinel, .sentinel, .pinned], laidTests := true, laidLooks := .later }
def FnExactPutFieldsCardSaid : Prop := Claim7.holds Tryz.pinned (.plain (OpenSpec.ofChange fnExactPutFieldsSpec)) fnExactPutFieldsCard

/-- THE SECOND FORM's CARD OF 'laws.FnExactPutField'. -/
def fnExactPutFieldUptoCard : Claim7 := { stood := { row := fnExactPutFieldUptoRow, standIns := [], harness := (true, "4be2df530e6e952150ca36aac7624be81e3069ca14346cf7c2adc2c82d6cd4c6"), looks := true }, kinds := [], alts := [], laidByText := true, laidKinds := [.data, .data, .data, .data, .sentinel, .sentinel, .pinned], laidTests := true, laidLooks := .later }
def FnExactPutFieldUptoCardSaid : Prop := Claim7.holds Tryz.pinned (.plain (OpenSpec.upto fnExactPutFieldSpec)) fnExactPutFieldUptoCard

/-- THE SECOND FORM's CARD OF 'laws.FnExactPutFields'. -/
def fnExactPutFieldsUptoCard : Claim7 := { stood := { row := fnExactPutFieldsUptoRow, standIns := [], harness := (true, "4be2df530e6e952150ca36aac7624be81e3069ca14346cf7c2adc2c82d6cd4c6"), looks := true }, kinds := [], alts := [], laidByText := true, laidKinds := [.data, .data, .data, .data, .sentinel, .sentinel, .pinned], laidTests := true, laidLooks := .later }
def FnExactPutFieldsUptoCardSaid : Prop := Claim7.holds Tryz.pinned (.plain (OpenSpec.upto fnExactPutFieldsSpec)) fnExactPutFieldsUptoCard
end Rows
end Go.Proofs.YthflimnpiglgbaaGreatDoor
