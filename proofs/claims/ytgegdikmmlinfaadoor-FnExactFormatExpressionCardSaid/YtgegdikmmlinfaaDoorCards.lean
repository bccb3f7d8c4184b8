/-
  DERIVED. GIVEN WITH THE SEED: THE CARDS: each row of YtgegdikmmlinfaaDoorRows.lean that lists a variable, with what it lists TIED to the program's text (the seventh form; the later family's looks); each row that meets fmt, with fmt's text TOLD by the authors' own Lean function (tested against real Go, not proved from fmt's source: count such statements apart). THE CARD IS WHAT COUNTS. Prove the row's statement (the work); the ties are given (YtgegdikmmlinfaaDoorTie.lean); close each card by the builder's one call (the guide's Derived/Test/ToyasCard.lean, 'card_holds'). Laid BY PROGRAM, IN A SANDBOX (cutbox-door.mjs). By AI agents, Wed Nov 11 2026. No macro, syntax, notation, axiom, sorry.
-/
import Derived.Test.YtgegdikmmlinfaaDoorRows
import GoSem.ClaimSeven
namespace Go.Proofs.YtgegdikmmlinfaaDoor
namespace Rows

/-- THE TIED CARD OF 'laws.FnExactFormatExpression'. -/
def fnExactFormatExpressionCard : Claim7 := { stood := { row := fnExactFormatExpressionRow, standIns := [], harness := (true, "6e527a179982f64a82ad1ca5a5177c8bf7ac753597cfcd982a13abc68607a5ef"), looks := false }, kinds := [], alts := [], laidByText := true, laidKinds := [.data, .data, .data], laidTests := true, laidLooks := .later }
def FnExactFormatExpressionCardSaid : Prop := Claim7.holds Tryd.pinned (.plain (OpenSpec.ofChange fnExactFormatExpressionSpec)) fnExactFormatExpressionCard

/-- THE SECOND FORM's CARD OF 'laws.FnExactFormatExpression'. -/
def fnExactFormatExpressionUptoCard : Claim7 := { stood := { row := fnExactFormatExpressionUptoRow, standIns := [], harness := (true, "6e527a179982f64a82ad1ca5a5177c8bf7ac753597cfcd982a13abc68607a5ef"), looks := false }, kinds := [], alts := [], laidByText := true, laidKinds := [.data, .data, .data], laidTests := true, laidLooks := .later }
def FnExactFormatExpressionUptoCardSaid : Prop := Claim7.holds Tryd.pinned (.plain (OpenSpec.upto fnExactFormatExpressionSpec)) fnExactFormatExpressionUptoCard
end Rows
end Go.Proofs.YtgegdikmmlinfaaDoor
