/-
  No cell of these rows narrows 'for every input' (looked for: loops, veiled, ifaces, maps, wideKeys, modest, calm, conditions, laid).
  DERIVED. THE GIVEN ROWS OF THIS SEAT. 9 by the template 'for every input the law returns true; each argument reads behind the call as it read before'; 0 by the template 'total and deterministic' (their statements: YtfdlllhcjfhknaaTotals.lean).
  GIVEN WITH THE SEED: the statements are not yours to turn. If you find one false, say at which input.
  Laid BY PROGRAM, IN A SANDBOX (cutbox-rows.mjs): the forced cells as the released guide's own fill.sh prints them over the translation 5b9a4dd8fd3b8a4f… (all of the seat's roots in one cut). By AI agents, Wed Nov 11 2026. No macro, syntax, notation, axiom, sorry.
-/
import Derived.Test.YtfdlllhcjfhknaaChecked
import GoSem.Claim
import GoSem.ClaimJoined
import GoSem.ClaimMapViews
import Derived.JoinedTies
import Derived.KernelRfl
namespace Go.Proofs.Ytfdlllhcjfhknaa
/- THE CELL 'sum', in the pinned program and in every row, IS THE sha256 OF THE DUMP (.gsa) THAT YtfdlllhcjfhknaaProg.lean LOADS. Nothing in Lean hashes anything: it is a label: what it is worth is what the hold of that sum in a sandbox is worth. -/
noncomputable def Try.pinned : Pinned := { name := "ytfdlllhcjfhknaa", sum := "5b9a4dd8fd3b8a4f18b70fdee522eda7f60a53bb36918f30ab22247e9a22fd07", checked := Try.checked }
namespace Rows
def none {H : Type} : Left H := { results := [], args := [] }

/-- 'laws.FnExactPeakCells': WHATEVER THE INPUT: true; the input reads as it did. -/
def fnExactPeakCellsSpec : ChangeSpec := { name := "fnExactPeakCells", fn := fun _ => fun
  | [d1, d2] => { results := [.lit (.bool true)], args := [d1, d2] }
  | _ => none }
def fnExactPeakCellsRow : OpenClaim := { program := "ytfdlllhcjfhknaa", sum := "5b9a4dd8fd3b8a4f18b70fdee522eda7f60a53bb36918f30ab22247e9a22fd07", func := "loop.example/g00889/laws.FnExactPeakCells", spec := "fnExactPeakCells", unfollowed := true, recurses := true, apart := false }
def FnExactPeakCellsSaid : Prop := fnExactPeakCellsRow.holds Try.pinned (OpenSpec.ofChange fnExactPeakCellsSpec)

/-- ITS FALSE NEIGHBOUR: 'it returns false'. Refute it at one input. -/
def fnExactPeakCellsWrong : ChangeSpec := { name := "fnExactPeakCells", fn := fun _ => fun
  | [d1, d2] => { results := [.lit (.bool false)], args := [d1, d2] }
  | _ => none }
def FnExactPeakCellsWrongFalsely : Prop := fnExactPeakCellsRow.holds Try.pinned (OpenSpec.ofChange fnExactPeakCellsWrong)

/-- 'laws.FnConversions': WHATEVER THE INPUT: true; the input reads as it did. -/
def fnConversionsSpec : ChangeSpec := { name := "fnConversions", fn := fun _ => fun
  | [d] => { results := [.lit (.bool true)], args := [d] }
  | _ => none }
def fnConversionsRow : OpenClaim := { program := "ytfdlllhcjfhknaa", sum := "5b9a4dd8fd3b8a4f18b70fdee522eda7f60a53bb36918f30ab22247e9a22fd07", func := "loop.example/g00889/laws.FnConversions", spec := "fnConversions", apart := false }
def FnConversionsSaid : Prop := fnConversionsRow.holds Try.pinned (OpenSpec.ofChange fnConversionsSpec)

/-- ITS FALSE NEIGHBOUR: 'it returns false'. Refute it at one input. -/
def fnConversionsWrong : ChangeSpec := { name := "fnConversions", fn := fun _ => fun
  | [d] => { results := [.lit (.bool false)], args := [d] }
  | _ => none }
def FnConversionsWrongFalsely : Prop := fnConversionsRow.holds Try.pinned (OpenSpec.ofChange fnConversionsWrong)

/-- 'laws.FnTotals': WHATEVER THE INPUT: true; the input reads as it did. -/
def fnTotalsSpec : ChangeSpec := { name := "fnTotals", fn := fun _ => fun
  | [d] => { results := [.lit (.bool true)], args := [d] }
  | _ => none }
def fnTotalsRow : OpenClaim := { program := "ytfdlllhcjfhknaa", sum := "5b9a4dd8fd3b8a4f18b70fdee522eda7f60a53bb36918f30ab22247e9a22fd07", func := "loop.example/g00889/laws.FnTotals", spec := "fnTotals", unfollowed := true, recurses := true, apart := false }
def FnTotalsSaid : Prop := fnTotalsRow.holds Try.pinned (OpenSpec.ofChange fnTotalsSpec)

/-- ITS FALSE NEIGHBOUR: 'it returns false'. Refute it at one input. -/
def fnTotalsWrong : ChangeSpec := { name := "fnTotals", fn := fun _ => fun
  | [d] => { results := [.lit (.bool false)], args := [d] }
  | _ => none }
def FnTotalsWrongFalsely : Prop := fnTotalsRow.holds Try.pinned (OpenSpec.ofChange fnTotalsWrong)

/-- 'laws.FnAlgebra': WHATEVER THE INPUT: true; the input reads as it did. -/
def fnAlgebraSpec : ChangeSpec := { name := "fnAlgebra", fn := fun _ => fun
  | [d] => { results := [.lit (.bool true)], args := [d] }
  | _ => none }
def fnAlgebraRow : OpenClaim := { program := "ytfdlllhcjfhknaa", sum := "5b9a4dd8fd3b8a4f18b70fdee522eda7f60a53bb36918f30ab22247e9a22fd07", func := "loop.example/g00889/laws.FnAlgebra", spec := "fnAlgebra", unfollowed := true, recurses := true, apart := false }
def FnAlgebraSaid : Prop := fnAlgebraRow.holds Try.pinned (OpenSpec.ofChange fnAlgebraSpec)

/-- ITS FALSE NEIGHBOUR: 'it returns false'. Refute it at one input. -/
def fnAlgebraWrong : ChangeSpec := { name := "fnAlgebra", fn := fun _ => fun
  | [d] => { results := [.lit (.bool false)], args := [d] }
  | _ => none }
def FnAlgebraWrongFalsely : Prop := fnAlgebraRow.holds Try.pinned (OpenSpec.ofChange fnAlgebraWrong)

/-- 'laws.FnMasks': WHATEVER THE INPUT: true; the input reads as it did. -/
def fnMasksSpec : ChangeSpec := { name := "fnMasks", fn := fun _ => fun
  | [d] => { results := [.lit (.bool true)], args := [d] }
  | _ => none }
def fnMasksRow : OpenClaim := { program := "ytfdlllhcjfhknaa", sum := "5b9a4dd8fd3b8a4f18b70fdee522eda7f60a53bb36918f30ab22247e9a22fd07", func := "loop.example/g00889/laws.FnMasks", spec := "fnMasks", unfollowed := true, recurses := true, apart := false }
def FnMasksSaid : Prop := fnMasksRow.holds Try.pinned (OpenSpec.ofChange fnMasksSpec)

/-- ITS FALSE NEIGHBOUR: 'it returns false'. Refute it at one input. -/
def fnMasksWrong : ChangeSpec := { name := "fnMasks", fn := fun _ => fun
  | [d] => { results := [.lit (.bool false)], args := [d] }
  | _ => none }
def FnMasksWrongFalsely : Prop := fnMasksRow.holds Try.pinned (OpenSpec.ofChange fnMasksWrong)

/-- 'laws.FnExactFoldNumbers': WHATEVER THE INPUT: true; the input reads as it did. -/
def fnExactFoldNumbersSpec : ChangeSpec := { name := "fnExactFoldNumbers", fn := fun _ => fun
  | [d] => { results := [.lit (.bool true)], args := [d] }
  | _ => none }
def fnExactFoldNumbersRow : OpenClaim := { program := "ytfdlllhcjfhknaa", sum := "5b9a4dd8fd3b8a4f18b70fdee522eda7f60a53bb36918f30ab22247e9a22fd07", func := "loop.example/g00889/laws.FnExactFoldNumbers", spec := "fnExactFoldNumbers", inPlace := ["slices.overlaps[loop.example/g00889/impl.Node]"], apart := false }
def FnExactFoldNumbersSaid : Prop := fnExactFoldNumbersRow.holds Try.pinned (OpenSpec.ofChange fnExactFoldNumbersSpec)

/-- ITS FALSE NEIGHBOUR: 'it returns false'. Refute it at one input. -/
def fnExactFoldNumbersWrong : ChangeSpec := { name := "fnExactFoldNumbers", fn := fun _ => fun
  | [d] => { results := [.lit (.bool false)], args := [d] }
  | _ => none }
def FnExactFoldNumbersWrongFalsely : Prop := fnExactFoldNumbersRow.holds Try.pinned (OpenSpec.ofChange fnExactFoldNumbersWrong)

/-- 'laws.FnExactFieldsUsed': WHATEVER THE INPUT: true; the input reads as it did. -/
def fnExactFieldsUsedSpec : ChangeSpec := { name := "fnExactFieldsUsed", fn := fun _ => fun
  | [d] => { results := [.lit (.bool true)], args := [d] }
  | _ => none }
def fnExactFieldsUsedRow : OpenClaim := { program := "ytfdlllhcjfhknaa", sum := "5b9a4dd8fd3b8a4f18b70fdee522eda7f60a53bb36918f30ab22247e9a22fd07", func := "loop.example/g00889/laws.FnExactFieldsUsed", spec := "fnExactFieldsUsed", recurses := true, apart := false }
def FnExactFieldsUsedSaid : Prop := fnExactFieldsUsedRow.holds Try.pinned (OpenSpec.ofChange fnExactFieldsUsedSpec)

/-- ITS FALSE NEIGHBOUR: 'it returns false'. Refute it at one input. -/
def fnExactFieldsUsedWrong : ChangeSpec := { name := "fnExactFieldsUsed", fn := fun _ => fun
  | [d] => { results := [.lit (.bool false)], args := [d] }
  | _ => none }
def FnExactFieldsUsedWrongFalsely : Prop := fnExactFieldsUsedRow.holds Try.pinned (OpenSpec.ofChange fnExactFieldsUsedWrong)

/-- 'laws.FnExactEvaluate': WHATEVER THE INPUT: true; the input reads as it did. -/
def fnExactEvaluateSpec : ChangeSpec := { name := "fnExactEvaluate", fn := fun _ => fun
  | [d1, d2] => { results := [.lit (.bool true)], args := [d1, d2] }
  | _ => none }
def fnExactEvaluateRow : OpenClaim := { program := "ytfdlllhcjfhknaa", sum := "5b9a4dd8fd3b8a4f18b70fdee522eda7f60a53bb36918f30ab22247e9a22fd07", func := "loop.example/g00889/laws.FnExactEvaluate", spec := "fnExactEvaluate", unfollowed := true, recurses := true, apart := false }
def FnExactEvaluateSaid : Prop := fnExactEvaluateRow.holds Try.pinned (OpenSpec.ofChange fnExactEvaluateSpec)

/-- ITS FALSE NEIGHBOUR: 'it returns false'. Refute it at one input. -/
def fnExactEvaluateWrong : ChangeSpec := { name := "fnExactEvaluate", fn := fun _ => fun
  | [d1, d2] => { results := [.lit (.bool false)], args := [d1, d2] }
  | _ => none }
def FnExactEvaluateWrongFalsely : Prop := fnExactEvaluateRow.holds Try.pinned (OpenSpec.ofChange fnExactEvaluateWrong)

/-- 'laws.FnReplacing': WHATEVER THE INPUT: true; the input reads as it did. -/
def fnReplacingSpec : ChangeSpec := { name := "fnReplacing", fn := fun _ => fun
  | [d] => { results := [.lit (.bool true)], args := [d] }
  | _ => none }
def fnReplacingRow : OpenClaim := { program := "ytfdlllhcjfhknaa", sum := "5b9a4dd8fd3b8a4f18b70fdee522eda7f60a53bb36918f30ab22247e9a22fd07", func := "loop.example/g00889/laws.FnReplacing", spec := "fnReplacing", recurses := true, apart := false }
def FnReplacingSaid : Prop := fnReplacingRow.holds Try.pinned (OpenSpec.ofChange fnReplacingSpec)

/-- ITS FALSE NEIGHBOUR: 'it returns false'. Refute it at one input. -/
def fnReplacingWrong : ChangeSpec := { name := "fnReplacing", fn := fun _ => fun
  | [d] => { results := [.lit (.bool false)], args := [d] }
  | _ => none }
def FnReplacingWrongFalsely : Prop := fnReplacingRow.holds Try.pinned (OpenSpec.ofChange fnReplacingWrong)

/- THE SECOND FORM. 'bulk': how many values and letters a reading holds, each counted each time it is reached (what is shared counts as often as it is met; a slice's spare places count too). A statement '..UptoSaid' is the law's where the arguments, and the package variables that the reading takes, are together of bulk at most 1048576: NARROWER than '..Said'. Prove '..Said' where nothing that the law and all that it calls make is longer than what came in: it says more and counts as full. Else prove '..UptoSaid'. A law counts once. -/
mutual
def uptoBulk {H : Type} : DataW H → Nat
  | .lit (.string bytes) => bytes.length + 1
  | .lit _ => 1
  | .nil => 1
  | .ptr d => uptoBulk d + 1
  | .slice elems spare => uptoBulkAll elems + uptoBulkAll spare + 1
  | .agg parts => uptoBulkAll parts + 1
  | .iface _ d => uptoBulk d + 1
  | .map entries => uptoBulkEntries entries + 1
  | .held _ => 1
def uptoBulkAll {H : Type} : List (DataW H) → Nat
  | [] => 0
  | d :: r => uptoBulk d + uptoBulkAll r
def uptoBulkEntries {H : Type} : List (Lit × DataW H) → Nat
  | [] => 0
  | x :: r => uptoBulkEntry x + uptoBulkEntries r
def uptoBulkEntry {H : Type} : Lit × DataW H → Nat
  | (.string bytes, d) => bytes.length + uptoBulk d + 1
  | (_, d) => uptoBulk d + 1
 end
def uptoSmall : (H : Type) → List (DataW H) → Bool := fun _ ds => decide (uptoBulkAll ds ≤ 1048576)
def OpenSpec.upto (s : _root_.Go.ChangeSpec) : _root_.Go.OpenSpec := { _root_.Go.OpenSpec.ofChange s with cond := some uptoSmall }

/-- 'laws.FnExactPeakCells', WHERE WHAT IT READS IS OF BULK AT MOST 1048576: true; the input reads as it did. -/
def fnExactPeakCellsUptoRow : OpenClaim := { program := "ytfdlllhcjfhknaa", sum := "5b9a4dd8fd3b8a4f18b70fdee522eda7f60a53bb36918f30ab22247e9a22fd07", func := "loop.example/g00889/laws.FnExactPeakCells", spec := "fnExactPeakCells", unfollowed := true, recurses := true, apart := false, narrowed := true }
def FnExactPeakCellsUptoSaid : Prop := fnExactPeakCellsUptoRow.holds Try.pinned (OpenSpec.upto fnExactPeakCellsSpec)

/-- 'laws.FnConversions', WHERE WHAT IT READS IS OF BULK AT MOST 1048576: true; the input reads as it did. -/
def fnConversionsUptoRow : OpenClaim := { program := "ytfdlllhcjfhknaa", sum := "5b9a4dd8fd3b8a4f18b70fdee522eda7f60a53bb36918f30ab22247e9a22fd07", func := "loop.example/g00889/laws.FnConversions", spec := "fnConversions", apart := false, narrowed := true }
def FnConversionsUptoSaid : Prop := fnConversionsUptoRow.holds Try.pinned (OpenSpec.upto fnConversionsSpec)

/-- 'laws.FnTotals', WHERE WHAT IT READS IS OF BULK AT MOST 1048576: true; the input reads as it did. -/
def fnTotalsUptoRow : OpenClaim := { program := "ytfdlllhcjfhknaa", sum := "5b9a4dd8fd3b8a4f18b70fdee522eda7f60a53bb36918f30ab22247e9a22fd07", func := "loop.example/g00889/laws.FnTotals", spec := "fnTotals", unfollowed := true, recurses := true, apart := false, narrowed := true }
def FnTotalsUptoSaid : Prop := fnTotalsUptoRow.holds Try.pinned (OpenSpec.upto fnTotalsSpec)

/-- 'laws.FnAlgebra', WHERE WHAT IT READS IS OF BULK AT MOST 1048576: true; the input reads as it did. -/
def fnAlgebraUptoRow : OpenClaim := { program := "ytfdlllhcjfhknaa", sum := "5b9a4dd8fd3b8a4f18b70fdee522eda7f60a53bb36918f30ab22247e9a22fd07", func := "loop.example/g00889/laws.FnAlgebra", spec := "fnAlgebra", unfollowed := true, recurses := true, apart := false, narrowed := true }
def FnAlgebraUptoSaid : Prop := fnAlgebraUptoRow.holds Try.pinned (OpenSpec.upto fnAlgebraSpec)

/-- 'laws.FnMasks', WHERE WHAT IT READS IS OF BULK AT MOST 1048576: true; the input reads as it did. -/
def fnMasksUptoRow : OpenClaim := { program := "ytfdlllhcjfhknaa", sum := "5b9a4dd8fd3b8a4f18b70fdee522eda7f60a53bb36918f30ab22247e9a22fd07", func := "loop.example/g00889/laws.FnMasks", spec := "fnMasks", unfollowed := true, recurses := true, apart := false, narrowed := true }
def FnMasksUptoSaid : Prop := fnMasksUptoRow.holds Try.pinned (OpenSpec.upto fnMasksSpec)

/-- 'laws.FnExactFoldNumbers', WHERE WHAT IT READS IS OF BULK AT MOST 1048576: true; the input reads as it did. -/
def fnExactFoldNumbersUptoRow : OpenClaim := { program := "ytfdlllhcjfhknaa", sum := "5b9a4dd8fd3b8a4f18b70fdee522eda7f60a53bb36918f30ab22247e9a22fd07", func := "loop.example/g00889/laws.FnExactFoldNumbers", spec := "fnExactFoldNumbers", inPlace := ["slices.overlaps[loop.example/g00889/impl.Node]"], apart := false, narrowed := true }
def FnExactFoldNumbersUptoSaid : Prop := fnExactFoldNumbersUptoRow.holds Try.pinned (OpenSpec.upto fnExactFoldNumbersSpec)

/-- 'laws.FnExactFieldsUsed', WHERE WHAT IT READS IS OF BULK AT MOST 1048576: true; the input reads as it did. -/
def fnExactFieldsUsedUptoRow : OpenClaim := { program := "ytfdlllhcjfhknaa", sum := "5b9a4dd8fd3b8a4f18b70fdee522eda7f60a53bb36918f30ab22247e9a22fd07", func := "loop.example/g00889/laws.FnExactFieldsUsed", spec := "fnExactFieldsUsed", recurses := true, apart := false, narrowed := true }
def FnExactFieldsUsedUptoSaid : Prop := fnExactFieldsUsedUptoRow.holds Try.pinned (OpenSpec.upto fnExactFieldsUsedSpec)

/-- 'laws.FnExactEvaluate', WHERE WHAT IT READS IS OF BULK AT MOST 1048576: true; the input reads as it did. -/
def fnExactEvaluateUptoRow : OpenClaim := { program := "ytfdlllhcjfhknaa", sum := "5b9a4dd8fd3b8a4f18b70fdee522eda7f60a53bb36918f30ab22247e9a22fd07", func := "loop.example/g00889/laws.FnExactEvaluate", spec := "fnExactEvaluate", unfollowed := true, recurses := true, apart := false, narrowed := true }
def FnExactEvaluateUptoSaid : Prop := fnExactEvaluateUptoRow.holds Try.pinned (OpenSpec.upto fnExactEvaluateSpec)

/-- 'laws.FnReplacing', WHERE WHAT IT READS IS OF BULK AT MOST 1048576: true; the input reads as it did. -/
def fnReplacingUptoRow : OpenClaim := { program := "ytfdlllhcjfhknaa", sum := "5b9a4dd8fd3b8a4f18b70fdee522eda7f60a53bb36918f30ab22247e9a22fd07", func := "loop.example/g00889/laws.FnReplacing", spec := "fnReplacing", recurses := true, apart := false, narrowed := true }
def FnReplacingUptoSaid : Prop := fnReplacingUptoRow.holds Try.pinned (OpenSpec.upto fnReplacingSpec)

end Rows
end Go.Proofs.Ytfdlllhcjfhknaa
