/-
  DERIVED. GIVEN WITH THE SEED: THE CARDS: each row of YthflimnpiglgbaaDoorRows.lean that lists a variable, with what it lists TIED to the program's text (the seventh form; the later family's looks); each row that meets fmt, with fmt's text TOLD by the authors' own Lean function (tested against real Go, not proved from fmt's source: count such statements apart). THE CARD IS WHAT COUNTS. Prove the row's statement (the work); the ties are given (YthflimnpiglgbaaDoorTie.lean); close each card by the builder's one call (the guide's Derived/Test/ToyasCard.lean, 'card_holds'). Laid BY PROGRAM, IN A SANDBOX (cutbox-door.mjs). By AI agents, Wed Nov 11 2026. No macro, syntax, notation, axiom, sorry.
-/
import Derived.Test.YthflimnpiglgbaaDoorRows
import GoSem.ClaimSeven
namespace Go.Proofs.YthflimnpiglgbaaDoor
namespace Rows

/-- THE TIED CARD OF 'laws.FnExactCodeLen'. -/
def fnExactCodeLenCard : Claim7 := { stood := { row := fnExactCodeLenRow, standIns := [], harness := (true, "1a66517dfc2c811b2977cb34bc9696bda8555a2d27364025319f9d4386b03f31"), looks := true }, kinds := [], alts := [], laidByText := true, laidKinds := [.data, .data, .data, .data, .sentinel, .sentinel, .pinned], laidTests := true, laidLooks := .later }
def FnExactCodeLenCardSaid : Prop := Claim7.holds Tryd.pinned (.plain (OpenSpec.ofChange fnExactCodeLenSpec)) fnExactCodeLenCard

/-- THE TIED CARD OF 'laws.FnExactHuffLen'. -/
def fnExactHuffLenCard : Claim7 := { stood := { row := fnExactHuffLenRow, standIns := [], harness := (true, "1a66517dfc2c811b2977cb34bc9696bda8555a2d27364025319f9d4386b03f31"), looks := true }, kinds := [], alts := [], laidByText := true, laidKinds := [.data, .data, .data, .data, .sentinel, .sentinel, .pinned], laidTests := true, laidLooks := .later }
def FnExactHuffLenCardSaid : Prop := Claim7.holds Tryd.pinned (.plain (OpenSpec.ofChange fnExactHuffLenSpec)) fnExactHuffLenCard

/-- THE TIED CARD OF 'laws.FnExactCodeOf'. -/
def fnExactCodeOfCard : Claim7 := { stood := { row := fnExactCodeOfRow, standIns := [], harness := (true, "1a66517dfc2c811b2977cb34bc9696bda8555a2d27364025319f9d4386b03f31"), looks := true }, kinds := [], alts := [], laidByText := true, laidKinds := [.data, .data, .data, .data, .sentinel, .sentinel, .pinned], laidTests := true, laidLooks := .later }
def FnExactCodeOfCardSaid : Prop := Claim7.holds Tryd.pinned (.plain (OpenSpec.ofChange fnExactCodeOfSpec)) fnExactCodeOfCard

/-- THE TIED CARD OF 'laws.FnCodes'. -/
def fnCodesCard : Claim7 := { stood := { row := fnCodesRow, standIns := [], harness := (true, "1a66517dfc2c811b2977cb34bc9696bda8555a2d27364025319f9d4386b03f31"), looks := true }, kinds := [], alts := [], laidByText := true, laidKinds := [.data, .data, .data, .data, .sentinel, .sentinel, .pinned], laidTests := true, laidLooks := .later }
def FnCodesCardSaid : Prop := Claim7.holds Tryd.pinned (.plain (OpenSpec.ofChange fnCodesSpec)) fnCodesCard

/-- THE TIED CARD OF 'laws.FnExactHuff'. -/
def fnExactHuffCard : Claim7 := { stood := { row := fnExactHuffRow, standIns := [], harness := (true, "1a66517dfc2c811b2977cb34bc9696bda8555a2d27364025319f9d4386b03f31"), looks := true }, kinds := [], alts := [], laidByText := true, laidKinds := [.data, .data, .data, .data, .sentinel, .sentinel, .pinned], laidTests := true, laidLooks := .later }
def FnExactHuffCardSaid : Prop := Claim7.holds Tryd.pinned (.plain (OpenSpec.ofChange fnExactHuffSpec)) fnExactHuffCard

/-- THE TIED CARD OF 'laws.FnHuffman'. -/
def fnHuffmanCard : Claim7 := { stood := { row := fnHuffmanRow, standIns := [], harness := (true, "1a66517dfc2c811b2977cb34bc9696bda8555a2d27364025319f9d4386b03f31"), looks := true }, kinds := [], alts := [], laidByText := true, laidKinds := [.data, .data, .data, .data, .sentinel, .sentinel, .pinned], laidTests := true, laidLooks := .later }
def FnHuffmanCardSaid : Prop := Claim7.holds Tryd.pinned (.plain (OpenSpec.ofChange fnHuffmanSpec)) fnHuffmanCard

/-- THE TIED CARD OF 'laws.FnExactUnHuff'. -/
def fnExactUnHuffCard : Claim7 := { stood := { row := fnExactUnHuffRow, standIns := [], harness := (true, "1a66517dfc2c811b2977cb34bc9696bda8555a2d27364025319f9d4386b03f31"), looks := true }, kinds := [], alts := [], laidByText := true, laidKinds := [.data, .data, .data, .data, .sentinel, .sentinel, .pinned], laidTests := true, laidLooks := .later }
def FnExactUnHuffCardSaid : Prop := Claim7.holds Tryd.pinned (.plain (OpenSpec.ofChange fnExactUnHuffSpec)) fnExactUnHuffCard

/-- THE TIED CARD OF 'laws.FnUncoded'. -/
def fnUncodedCard : Claim7 := { stood := { row := fnUncodedRow, standIns := [], harness := (true, "1a66517dfc2c811b2977cb34bc9696bda8555a2d27364025319f9d4386b03f31"), looks := true }, kinds := [], alts := [], laidByText := true, laidKinds := [.data, .data, .data, .data, .sentinel, .sentinel, .pinned], laidTests := true, laidLooks := .later }
def FnUncodedCardSaid : Prop := Claim7.holds Tryd.pinned (.plain (OpenSpec.ofChange fnUncodedSpec)) fnUncodedCard

/-- THE TIED CARD OF 'laws.FnExactPutString'. -/
def fnExactPutStringCard : Claim7 := { stood := { row := fnExactPutStringRow, standIns := [], harness := (true, "1a66517dfc2c811b2977cb34bc9696bda8555a2d27364025319f9d4386b03f31"), looks := true }, kinds := [], alts := [], laidByText := true, laidKinds := [.data, .data, .data, .data, .sentinel, .sentinel, .pinned], laidTests := true, laidLooks := .later }
def FnExactPutStringCardSaid : Prop := Claim7.holds Tryd.pinned (.plain (OpenSpec.ofChange fnExactPutStringSpec)) fnExactPutStringCard

/-- THE TIED CARD OF 'laws.FnStrings'. -/
def fnStringsCard : Claim7 := { stood := { row := fnStringsRow, standIns := [], harness := (true, "1a66517dfc2c811b2977cb34bc9696bda8555a2d27364025319f9d4386b03f31"), looks := true }, kinds := [], alts := [], laidByText := true, laidKinds := [.data, .data, .data, .data, .sentinel, .sentinel, .pinned], laidTests := true, laidLooks := .later }
def FnStringsCardSaid : Prop := Claim7.holds Tryd.pinned (.plain (OpenSpec.ofChange fnStringsSpec)) fnStringsCard

/-- THE TIED CARD OF 'laws.FnExactGetString'. -/
def fnExactGetStringCard : Claim7 := { stood := { row := fnExactGetStringRow, standIns := [], harness := (true, "1a66517dfc2c811b2977cb34bc9696bda8555a2d27364025319f9d4386b03f31"), looks := true }, kinds := [], alts := [], laidByText := true, laidKinds := [.data, .data, .data, .data, .sentinel, .sentinel, .pinned], laidTests := true, laidLooks := .later }
def FnExactGetStringCardSaid : Prop := Claim7.holds Tryd.pinned (.plain (OpenSpec.ofChange fnExactGetStringSpec)) fnExactGetStringCard

/-- THE SECOND FORM's CARD OF 'laws.FnExactCodeLen'. -/
def fnExactCodeLenUptoCard : Claim7 := { stood := { row := fnExactCodeLenUptoRow, standIns := [], harness := (true, "1a66517dfc2c811b2977cb34bc9696bda8555a2d27364025319f9d4386b03f31"), looks := true }, kinds := [], alts := [], laidByText := true, laidKinds := [.data, .data, .data, .data, .sentinel, .sentinel, .pinned], laidTests := true, laidLooks := .later }
def FnExactCodeLenUptoCardSaid : Prop := Claim7.holds Tryd.pinned (.plain (OpenSpec.upto fnExactCodeLenSpec)) fnExactCodeLenUptoCard

/-- THE SECOND FORM's CARD OF 'laws.FnExactHuffLen'. -/
def fnExactHuffLenUptoCard : Claim7 := { stood := { row := fnExactHuffLenUptoRow, standIns := [], harness := (true, "1a66517dfc2c811b2977cb34bc9696bda8555a2d27364025319f9d4386b03f31"), looks := true }, kinds := [], alts := [], laidByText := true, laidKinds := [.data, .data, .data, .data, .sentinel, .sentinel, .pinned], laidTests := true, laidLooks := .later }
def FnExactHuffLenUptoCardSaid : Prop := Claim7.holds Tryd.pinned (.plain (OpenSpec.upto fnExactHuffLenSpec)) fnExactHuffLenUptoCard

/-- THE SECOND FORM's CARD OF 'laws.FnExactCodeOf'. -/
def fnExactCodeOfUptoCard : Claim7 := { stood := { row := fnExactCodeOfUptoRow, standIns := [], harness := (true, "1a66517dfc2c811b2977cb34bc9696bda8555a2d27364025319f9d4386b03f31"), looks := true }, kinds := [], alts := [], laidByText := true, laidKinds := [.data, .data, .data, .data, .sentinel, .sentinel, .pinned], laidTests := true, laidLooks := .later }
def FnExactCodeOfUptoCardSaid : Prop := Claim7.holds Tryd.pinned (.plain (OpenSpec.upto fnExactCodeOfSpec)) fnExactCodeOfUptoCard

/-- THE SECOND FORM's CARD OF 'laws.FnCodes'. -/
def fnCodesUptoCard : Claim7 := { stood := { row := fnCodesUptoRow, standIns := [], harness := (true, "1a66517dfc2c811b2977cb34bc9696bda8555a2d27364025319f9d4386b03f31"), looks := true }, kinds := [], alts := [], laidByText := true, laidKinds := [.data, .data, .data, .data, .sentinel, .sentinel, .pinned], laidTests := true, laidLooks := .later }
def FnCodesUptoCardSaid : Prop := Claim7.holds Tryd.pinned (.plain (OpenSpec.upto fnCodesSpec)) fnCodesUptoCard

/-- THE SECOND FORM's CARD OF 'laws.FnExactHuff'. -/
def fnExactHuffUptoCard : Claim7 := { stood := { row := fnExactHuffUptoRow, standIns := [], harness := (true, "1a66517dfc2c811b2977cb34bc9696bda8555a2d27364025319f9d4386b03f31"), looks := true }, kinds := [], alts := [], laidByText := true, laidKinds := [.data, .data, .data, .data, .sentinel, .sentinel, .pinned], laidTests := true, laidLooks := .later }
def FnExactHuffUptoCardSaid : Prop := Claim7.holds Tryd.pinned (.plain (OpenSpec.upto fnExactHuffSpec)) fnExactHuffUptoCard

/-- THE SECOND FORM's CARD OF 'laws.FnHuffman'. -/
def fnHuffmanUptoCard : Claim7 := { stood := { row := fnHuffmanUptoRow, standIns := [], harness := (true, "1a66517dfc2c811b2977cb34bc9696bda8555a2d27364025319f9d4386b03f31"), looks := true }, kinds := [], alts := [], laidByText := true, laidKinds := [.data, .data, .data, .data, .sentinel, .sentinel, .pinned], laidTests := true, laidLooks := .later }
def FnHuffmanUptoCardSaid : Prop := Claim7.holds Tryd.pinned (.plain (OpenSpec.upto fnHuffmanSpec)) fnHuffmanUptoCard

/-- THE SECOND FORM's CARD OF 'laws.FnExactUnHuff'. -/
def fnExactUnHuffUptoCard : Claim7 := { stood := { row := fnExactUnHuffUptoRow, standIns := [], harness := (true, "1a66517dfc2c811b2977cb34bc9696bda8555a2d27364025319f9d4386b03f31"), looks := true }, kinds := [], alts := [], laidByText := true, laidKinds := [.data, .data, .data, .data, .sentinel, .sentinel, .pinned], laidTests := true, laidLooks := .later }
def FnExactUnHuffUptoCardSaid : Prop := Claim7.holds Tryd.pinned (.plain (OpenSpec.upto fnExactUnHuffSpec)) fnExactUnHuffUptoCard

/-- THE SECOND FORM's CARD OF 'laws.FnUncoded'. -/
def fnUncodedUptoCard : Claim7 := { stood := { row := fnUncodedUptoRow, standIns := [], harness := (true, "1a66517dfc2c811b2977cb34bc9696bda8555a2d27364025319f9d4386b03f31"), looks := true }, kinds := [], alts := [], laidByText := true, laidKinds := [.data, .data, .data, .data, .sentinel, .sentinel, .pinned], laidTests := true, laidLooks := .later }
def FnUncodedUptoCardSaid : Prop := Claim7.holds Tryd.pinned (.plain (OpenSpec.upto fnUncodedSpec)) fnUncodedUptoCard

/-- THE SECOND FORM's CARD OF 'laws.FnExactPutString'. -/
def fnExactPutStringUptoCard : Claim7 := { stood := { row := fnExactPutStringUptoRow, standIns := [], harness := (true, "1a66517dfc2c811b2977cb34bc9696bda8555a2d27364025319f9d4386b03f31"), looks := true }, kinds := [], alts := [], laidByText := true, laidKinds := [.data, .data, .data, .data, .sentinel, .sentinel, .pinned], laidTests := true, laidLooks := .later }
def FnExactPutStringUptoCardSaid : Prop := Claim7.holds Tryd.pinned (.plain (OpenSpec.upto fnExactPutStringSpec)) fnExactPutStringUptoCard

/-- THE SECOND FORM's CARD OF 'laws.FnStrings'. -/
def fnStringsUptoCard : Claim7 := { stood := { row := fnStringsUptoRow, standIns := [], harness := (true, "1a66517dfc2c811b2977cb34bc9696bda8555a2d27364025319f9d4386b03f31"), looks := true }, kinds := [], alts := [], laidByText := true, laidKinds := [.data, .data, .data, .data, .sentinel, .sentinel, .pinned], laidTests := true, laidLooks := .later }
def FnStringsUptoCardSaid : Prop := Claim7.holds Tryd.pinned (.plain (OpenSpec.upto fnStringsSpec)) fnStringsUptoCard

/-- THE SECOND FORM's CARD OF 'laws.FnExactGetString'. -/
def fnExactGetStringUptoCard : Claim7 := { stood := { row := fnExactGetStringUptoRow, standIns := [], harness := (true, "1a66517dfc2c811b2977cb34bc9696bda8555a2d27364025319f9d4386b03f31"), looks := true }, kinds := [], alts := [], laidByText := true, laidKinds := [.data, .data, .data, .data, .sentinel, .sentinel, .pinned], laidTests := true, laidLooks := .later }
def FnExactGetStringUptoCardSaid : Prop := Claim7.holds Tryd.pinned (.plain (OpenSpec.upto fnExactGetStringSpec)) fnExactGetStringUptoCard
end Rows
end Go.Proofs.YthflimnpiglgbaaDoor
