/-
  DERIVED. GIVEN WITH THE SEED: THE CARDS: each row of YthbekdccfleaoaaDoorRows.lean that lists a variable, with what it lists TIED to the program's text (the seventh form; the later family's looks); each row that meets fmt, with fmt's text TOLD by the authors' own Lean function (tested against real Go, not proved from fmt's source: count such statements apart). THE CARD IS WHAT COUNTS. Prove the row's statement (the work); the ties are given (YthbekdccfleaoaaDoorTie.lean); close each card by the builder's one call (the guide's Derived/Test/ToyasCard.lean, 'card_holds'). Laid BY PROGRAM, IN A SANDBOX (cutbox-door.mjs). By AI agents, Wed Nov 11 2026. No macro, syntax, notation, axiom, sorry.
-/
import Derived.Test.YthbekdccfleaoaaDoorRows
import GoSem.ClaimSeven
namespace Go.Proofs.YthbekdccfleaoaaDoor
namespace Rows

/-- THE TIED CARD OF 'laws.FnExactSplitString'. -/
def fnExactSplitStringCard : Claim7 := { stood := { row := fnExactSplitStringRow, standIns := [], harness := (true, "1b552f093b9d47da60fa6a4a0796736a1930e663091edab2c363370732549c57"), looks := true }, kinds := [], alts := [], laidByText := true, laidKinds := [.data, .pinned], laidTests := true, laidLooks := .later }
def FnExactSplitStringCardSaid : Prop := Claim7.holds Tryd.pinned (.plain (OpenSpec.ofChange fnExactSplitStringSpec)) fnExactSplitStringCard

/-- THE TIED CARD OF 'laws.FnExactFieldText'. -/
def fnExactFieldTextCard : Claim7 := { stood := { row := fnExactFieldTextRow, standIns := [], harness := (true, "1b552f093b9d47da60fa6a4a0796736a1930e663091edab2c363370732549c57"), looks := true }, kinds := [], alts := [], laidByText := true, laidKinds := [.data, .data, .data], laidTests := true, laidLooks := .later }
def FnExactFieldTextCardSaid : Prop := Claim7.holds Tryd.pinned (.plain (OpenSpec.ofChange fnExactFieldTextSpec)) fnExactFieldTextCard

/-- THE TIED CARD OF 'laws.FnExactFormatExpression'. -/
def fnExactFormatExpressionCard : Claim7 := { stood := { row := fnExactFormatExpressionRow, standIns := [], harness := (true, "1b552f093b9d47da60fa6a4a0796736a1930e663091edab2c363370732549c57"), looks := true }, kinds := [], alts := [], laidByText := true, laidKinds := [.data, .data, .data], laidTests := true, laidLooks := .later }
def FnExactFormatExpressionCardSaid : Prop := Claim7.holds Tryd.pinned (.plain (OpenSpec.ofChange fnExactFormatExpressionSpec)) fnExactFormatExpressionCard

/-- THE TIED CARD OF 'laws.FnSplitJoin'. -/
def fnSplitJoinCard : Claim7 := { stood := { row := fnSplitJoinRow, standIns := [], harness := (true, "1b552f093b9d47da60fa6a4a0796736a1930e663091edab2c363370732549c57"), looks := true }, kinds := [], alts := [], laidByText := true, laidKinds := [.data, .pinned], laidTests := true, laidLooks := .later }
def FnSplitJoinCardSaid : Prop := Claim7.holds Tryd.pinned (.plain (OpenSpec.ofChange fnSplitJoinSpec)) fnSplitJoinCard

/-- THE TIED CARD OF 'laws.FnExactParseInt'. -/
def fnExactParseIntCard : Claim7 := { stood := { row := fnExactParseIntRow, standIns := [], harness := (true, "1b552f093b9d47da60fa6a4a0796736a1930e663091edab2c363370732549c57"), looks := true }, kinds := [], alts := [], laidByText := true, laidKinds := [.data, .data, .data, .sentinel, .sentinel], laidTests := true, laidLooks := .later }
def FnExactParseIntCardSaid : Prop := Claim7.holds Tryd.pinned (.plain (OpenSpec.ofChange fnExactParseIntSpec)) fnExactParseIntCard

/-- THE TIED CARD OF 'laws.FnStrings'. -/
def fnStringsCard : Claim7 := { stood := { row := fnStringsRow, standIns := [], harness := (true, "1b552f093b9d47da60fa6a4a0796736a1930e663091edab2c363370732549c57"), looks := true }, kinds := [], alts := [], laidByText := true, laidKinds := [.data, .data, .data, .sentinel, .sentinel], laidTests := true, laidLooks := .later }
def FnStringsCardSaid : Prop := Claim7.holds Tryd.pinned (.plain (OpenSpec.ofChange fnStringsSpec)) fnStringsCard

/-- THE TIED CARD OF 'laws.FnExactParseQuantity'. -/
def fnExactParseQuantityCard : Claim7 := { stood := { row := fnExactParseQuantityRow, standIns := [], harness := (true, "1b552f093b9d47da60fa6a4a0796736a1930e663091edab2c363370732549c57"), looks := true }, kinds := [], alts := [], laidByText := true, laidKinds := [.data, .data, .data, .sentinel, .sentinel], laidTests := true, laidLooks := .later }
def FnExactParseQuantityCardSaid : Prop := Claim7.holds Tryd.pinned (.plain (OpenSpec.ofChange fnExactParseQuantitySpec)) fnExactParseQuantityCard

/-- THE TIED CARD OF 'laws.FnUnits'. -/
def fnUnitsCard : Claim7 := { stood := { row := fnUnitsRow, standIns := [], harness := (true, "1b552f093b9d47da60fa6a4a0796736a1930e663091edab2c363370732549c57"), looks := true }, kinds := [], alts := [], laidByText := true, laidKinds := [.data, .data, .data, .sentinel, .sentinel], laidTests := true, laidLooks := .later }
def FnUnitsCardSaid : Prop := Claim7.holds Tryd.pinned (.plain (OpenSpec.ofChange fnUnitsSpec)) fnUnitsCard

/-- THE TIED CARD OF 'laws.FnExactParseExpression'. -/
def fnExactParseExpressionCard : Claim7 := { stood := { row := fnExactParseExpressionRow, standIns := [], harness := (true, "1b552f093b9d47da60fa6a4a0796736a1930e663091edab2c363370732549c57"), looks := true }, kinds := [], alts := [], laidByText := true, laidKinds := [.data, .data, .data, .sentinel, .sentinel], laidTests := true, laidLooks := .later }
def FnExactParseExpressionCardSaid : Prop := Claim7.holds Tryd.pinned (.plain (OpenSpec.ofChange fnExactParseExpressionSpec)) fnExactParseExpressionCard

/-- THE TIED CARD OF 'laws.FnExactParseField'. -/
def fnExactParseFieldCard : Claim7 := { stood := { row := fnExactParseFieldRow, standIns := [], harness := (true, "1b552f093b9d47da60fa6a4a0796736a1930e663091edab2c363370732549c57"), looks := true }, kinds := [], alts := [], laidByText := true, laidKinds := [.data, .data, .data, .data, .sentinel, .sentinel, .pinned], laidTests := true, laidLooks := .later }
def FnExactParseFieldCardSaid : Prop := Claim7.holds Tryd.pinned (.plain (OpenSpec.ofChange fnExactParseFieldSpec)) fnExactParseFieldCard

/-- THE TIED CARD OF 'laws.FnFields'. -/
def fnFieldsCard : Claim7 := { stood := { row := fnFieldsRow, standIns := [], harness := (true, "1b552f093b9d47da60fa6a4a0796736a1930e663091edab2c363370732549c57"), looks := true }, kinds := [], alts := [], laidByText := true, laidKinds := [.data, .data, .data, .data, .sentinel, .sentinel, .pinned], laidTests := true, laidLooks := .later }
def FnFieldsCardSaid : Prop := Claim7.holds Tryd.pinned (.plain (OpenSpec.ofChange fnFieldsSpec)) fnFieldsCard

/-- THE SECOND FORM's CARD OF 'laws.FnExactSplitString'. -/
def fnExactSplitStringUptoCard : Claim7 := { stood := { row := fnExactSplitStringUptoRow, standIns := [], harness := (true, "1b552f093b9d47da60fa6a4a0796736a1930e663091edab2c363370732549c57"), looks := true }, kinds := [], alts := [], laidByText := true, laidKinds := [.data, .pinned], laidTests := true, laidLooks := .later }
def FnExactSplitStringUptoCardSaid : Prop := Claim7.holds Tryd.pinned (.plain (OpenSpec.upto fnExactSplitStringSpec)) fnExactSplitStringUptoCard

/-- THE SECOND FORM's CARD OF 'laws.FnExactFieldText'. -/
def fnExactFieldTextUptoCard : Claim7 := { stood := { row := fnExactFieldTextUptoRow, standIns := [], harness := (true, "1b552f093b9d47da60fa6a4a0796736a1930e663091edab2c363370732549c57"), looks := true }, kinds := [], alts := [], laidByText := true, laidKinds := [.data, .data, .data], laidTests := true, laidLooks := .later }
def FnExactFieldTextUptoCardSaid : Prop := Claim7.holds Tryd.pinned (.plain (OpenSpec.upto fnExactFieldTextSpec)) fnExactFieldTextUptoCard

/-- THE SECOND FORM's CARD OF 'laws.FnExactFormatExpression'. -/
def fnExactFormatExpressionUptoCard : Claim7 := { stood := { row := fnExactFormatExpressionUptoRow, standIns := [], harness := (true, "1b552f093b9d47da60fa6a4a0796736a1930e663091edab2c363370732549c57"), looks := true }, kinds := [], alts := [], laidByText := true, laidKinds := [.data, .data, .data], laidTests := true, laidLooks := .later }
def FnExactFormatExpressionUptoCardSaid : Prop := Claim7.holds Tryd.pinned (.plain (OpenSpec.upto fnExactFormatExpressionSpec)) fnExactFormatExpressionUptoCard

/-- THE SECOND FORM's CARD OF 'laws.FnSplitJoin'. -/
def fnSplitJoinUptoCard : Claim7 := { stood := { row := fnSplitJoinUptoRow, standIns := [], harness := (true, "1b552f093b9d47da60fa6a4a0796736a1930e663091edab2c363370732549c57"), looks := true }, kinds := [], alts := [], laidByText := true, laidKinds := [.data, .pinned], laidTests := true, laidLooks := .later }
def FnSplitJoinUptoCardSaid : Prop := Claim7.holds Tryd.pinned (.plain (OpenSpec.upto fnSplitJoinSpec)) fnSplitJoinUptoCard

/-- THE SECOND FORM's CARD OF 'laws.FnExactParseInt'. -/
def fnExactParseIntUptoCard : Claim7 := { stood := { row := fnExactParseIntUptoRow, standIns := [], harness := (true, "1b552f093b9d47da60fa6a4a0796736a1930e663091edab2c363370732549c57"), looks := true }, kinds := [], alts := [], laidByText := true, laidKinds := [.data, .data, .data, .sentinel, .sentinel], laidTests := true, laidLooks := .later }
def FnExactParseIntUptoCardSaid : Prop := Claim7.holds Tryd.pinned (.plain (OpenSpec.upto fnExactParseIntSpec)) fnExactParseIntUptoCard

/-- THE SECOND FORM's CARD OF 'laws.FnStrings'. -/
def fnStringsUptoCard : Claim7 := { stood := { row := fnStringsUptoRow, standIns := [], harness := (true, "1b552f093b9d47da60fa6a4a0796736a1930e663091edab2c363370732549c57"), looks := true }, kinds := [], alts := [], laidByText := true, laidKinds := [.data, .data, .data, .sentinel, .sentinel], laidTests := true, laidLooks := .later }
def FnStringsUptoCardSaid : Prop := Claim7.holds Tryd.pinned (.plain (OpenSpec.upto fnStringsSpec)) fnStringsUptoCard

/-- THE SECOND FORM's CARD OF 'laws.FnExactParseQuantity'. -/
def fnExactParseQuantityUptoCard : Claim7 := { stood := { row := fnExactParseQuantityUptoRow, standIns := [], harness := (true, "1b552f093b9d47da60fa6a4a0796736a1930e663091edab2c363370732549c57"), looks := true }, kinds := [], alts := [], laidByText := true, laidKinds := [.data, .data, .data, .sentinel, .sentinel], laidTests := true, laidLooks := .later }
def FnExactParseQuantityUptoCardSaid : Prop := Claim7.holds Tryd.pinned (.plain (OpenSpec.upto fnExactParseQuantitySpec)) fnExactParseQuantityUptoCard

/-- THE SECOND FORM's CARD OF 'laws.FnUnits'. -/
def fnUnitsUptoCard : Claim7 := { stood := { row := fnUnitsUptoRow, standIns := [], harness := (true, "1b552f093b9d47da60fa6a4a0796736a1930e663091edab2c363370732549c57"), looks := true }, kinds := [], alts := [], laidByText := true, laidKinds := [.data, .data, .data, .sentinel, .sentinel], laidTests := true, laidLooks := .later }
def FnUnitsUptoCardSaid : Prop := Claim7.holds Tryd.pinned (.plain (OpenSpec.upto fnUnitsSpec)) fnUnitsUptoCard

/-- THE SECOND FORM's CARD OF 'laws.FnExactParseExpression'. -/
def fnExactParseExpressionUptoCard : Claim7 := { stood := { row := fnExactParseExpressionUptoRow, standIns := [], harness := (true, "1b552f093b9d47da60fa6a4a0796736a1930e663091edab2c363370732549c57"), looks := true }, kinds := [], alts := [], laidByText := true, laidKinds := [.data, .data, .data, .sentinel, .sentinel], laidTests := true, laidLooks := .later }
def FnExactParseExpressionUptoCardSaid : Prop := Claim7.holds Tryd.pinned (.plain (OpenSpec.upto fnExactParseExpressionSpec)) fnExactParseExpressionUptoCard

/-- THE SECOND FORM's CARD OF 'laws.FnExactParseField'. -/
def fnExactParseFieldUptoCard : Claim7 := { stood := { row := fnExactParseFieldUptoRow, standIns := [], harness := (true, "1b552f093b9d47da60fa6a4a0796736a1930e663091edab2c363370732549c57"), looks := true }, kinds := [], alts := [], laidByText := true, laidKinds := [.data, .data, .data, .data, .sentinel, .sentinel, .pinned], laidTests := true, laidLooks := .later }
def FnExactParseFieldUptoCardSaid : Prop := Claim7.holds Tryd.pinned (.plain (OpenSpec.upto fnExactParseFieldSpec)) fnExactParseFieldUptoCard

/-- THE SECOND FORM's CARD OF 'laws.FnFields'. -/
def fnFieldsUptoCard : Claim7 := { stood := { row := fnFieldsUptoRow, standIns := [], harness := (true, "1b552f093b9d47da60fa6a4a0796736a1930e663091edab2c363370732549c57"), looks := true }, kinds := [], alts := [], laidByText := true, laidKinds := [.data, .data, .data, .data, .sentinel, .sentinel, .pinned], laidTests := true, laidLooks := .later }
def FnFieldsUptoCardSaid : Prop := Claim7.holds Tryd.pinned (.plain (OpenSpec.upto fnFieldsSpec)) fnFieldsUptoCard
end Rows
end Go.Proofs.YthbekdccfleaoaaDoor
