/-
  DERIVED. GIVEN WITH THE SEED: THE CARDS: each row of YteedcjgmgbcndaaDoorRows.lean that lists a variable, with what it lists TIED to the program's text (the seventh form; the later family's looks); each row that meets fmt, with fmt's text TOLD by the authors' own Lean function (tested against real Go, not proved from fmt's source: count such statements apart). THE CARD IS WHAT COUNTS. Prove the row's statement (the work); the ties are given (YteedcjgmgbcndaaDoorTie.lean); close each card by the builder's one call (the guide's Derived/Test/ToyasCard.lean, 'card_holds'). Laid BY PROGRAM, IN A SANDBOX (cutbox-door.mjs). By AI agents, Wed Nov 11 2026. No macro, syntax, notation, axiom, sorry.
-/
import Derived.Test.YteedcjgmgbcndaaDoorRows
import GoSem.ClaimSeven
namespace Go.Proofs.YteedcjgmgbcndaaDoor
namespace Rows

/-- THE TIED CARD OF 'laws.FnExactParseExpression'. -/
def fnExactParseExpressionCard : Claim7 := { stood := { row := fnExactParseExpressionRow, standIns := [], harness := (true, "f03e64a31cf994e8e7b02d56e8de9839475f4ad0914c2303064c120740f27360"), looks := true }, kinds := [], alts := [], laidByText := true, laidKinds := [.data, .data, .data, .sentinel, .sentinel], laidTests := true, laidLooks := .later }
def FnExactParseExpressionCardSaid : Prop := Claim7.holds Tryd.pinned (.plain (OpenSpec.ofChange fnExactParseExpressionSpec)) fnExactParseExpressionCard

/-- THE SECOND FORM's CARD OF 'laws.FnExactParseExpression'. -/
def fnExactParseExpressionUptoCard : Claim7 := { stood := { row := fnExactParseExpressionUptoRow, standIns := [], harness := (true, "f03e64a31cf994e8e7b02d56e8de9839475f4ad0914c2303064c120740f27360"), looks := true }, kinds := [], alts := [], laidByText := true, laidKinds := [.data, .data, .data, .sentinel, .sentinel], laidTests := true, laidLooks := .later }
def FnExactParseExpressionUptoCardSaid : Prop := Claim7.holds Tryd.pinned (.plain (OpenSpec.upto fnExactParseExpressionSpec)) fnExactParseExpressionUptoCard
end Rows
end Go.Proofs.YteedcjgmgbcndaaDoor
