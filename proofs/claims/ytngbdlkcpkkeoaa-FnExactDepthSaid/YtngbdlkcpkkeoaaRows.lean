/-
  No cell of these rows narrows 'for every input' (looked for: loops, veiled, ifaces, maps, wideKeys, modest, calm, conditions, laid).
  DERIVED. THE GIVEN ROWS OF THIS SEAT. 12 by the template 'for every input the law returns true; each argument reads behind the call as it read before'; 0 by the template 'total and deterministic' (their statements: YtngbdlkcpkkeoaaTotals.lean).
  GIVEN WITH THE SEED: the statements are not yours to turn. If you find one false, say at which input.
  Laid BY PROGRAM, IN A SANDBOX (cutbox-rows.mjs): the forced cells as the released guide's own fill.sh prints them over the translation 2fab9ffed6432058… (all of the seat's roots in one cut). By AI agents, Wed Nov 11 2026. No macro, syntax, notation, axiom, sorry.
-/
import Derived.Test.YtngbdlkcpkkeoaaChecked
import GoSem.Claim
import GoSem.ClaimJoined
import GoSem.ClaimMapViews
import Derived.JoinedTies
import Derived.KernelRfl
namespace Go.Proofs.Ytngbdlkcpkkeoaa
/- THE CELL 'sum', in the pinned program and in every row, IS THE sha256 OF THE DUMP (.gsa) THAT YtngbdlkcpkkeoaaProg.lean LOADS. Nothing in Lean hashes anything: it is a label: what it is worth is what the hold of that sum in a sandbox is worth. -/
noncomputable def Try.pinned : Pinned := { name := "ytngbdlkcpkkeoaa", sum := "2fab9ffed64320584c3b695e2febf311999692efb6aae33f729bfe6e54131446", checked := Try.checked }
namespace Rows
def none {H : Type} : Left H := { results := [], args := [] }

/-- 'laws.FnExactIsExpression': WHATEVER THE INPUT: true; the input reads as it did. -/
def fnExactIsExpressionSpec : ChangeSpec := { name := "fnExactIsExpression", fn := fun _ => fun
  | [d] => { results := [.lit (.bool true)], args := [d] }
  | _ => none }
def fnExactIsExpressionRow : OpenClaim := { program := "ytngbdlkcpkkeoaa", sum := "2fab9ffed64320584c3b695e2febf311999692efb6aae33f729bfe6e54131446", func := "loop.example/g00889/laws.FnExactIsExpression", spec := "fnExactIsExpression", apart := false }
def FnExactIsExpressionSaid : Prop := fnExactIsExpressionRow.holds Try.pinned (OpenSpec.ofChange fnExactIsExpressionSpec)

/-- ITS FALSE NEIGHBOUR: 'it returns false'. Refute it at one input. -/
def fnExactIsExpressionWrong : ChangeSpec := { name := "fnExactIsExpression", fn := fun _ => fun
  | [d] => { results := [.lit (.bool false)], args := [d] }
  | _ => none }
def FnExactIsExpressionWrongFalsely : Prop := fnExactIsExpressionRow.holds Try.pinned (OpenSpec.ofChange fnExactIsExpressionWrong)

/-- 'laws.FnExactDifferentCells': WHATEVER THE INPUT: true; the input reads as it did. -/
def fnExactDifferentCellsSpec : ChangeSpec := { name := "fnExactDifferentCells", fn := fun _ => fun
  | [d1, d2] => { results := [.lit (.bool true)], args := [d1, d2] }
  | _ => none }
def fnExactDifferentCellsRow : OpenClaim := { program := "ytngbdlkcpkkeoaa", sum := "2fab9ffed64320584c3b695e2febf311999692efb6aae33f729bfe6e54131446", func := "loop.example/g00889/laws.FnExactDifferentCells", spec := "fnExactDifferentCells", unfollowed := true, recurses := true, apart := false }
def FnExactDifferentCellsSaid : Prop := fnExactDifferentCellsRow.holds Try.pinned (OpenSpec.ofChange fnExactDifferentCellsSpec)

/-- ITS FALSE NEIGHBOUR: 'it returns false'. Refute it at one input. -/
def fnExactDifferentCellsWrong : ChangeSpec := { name := "fnExactDifferentCells", fn := fun _ => fun
  | [d1, d2] => { results := [.lit (.bool false)], args := [d1, d2] }
  | _ => none }
def FnExactDifferentCellsWrongFalsely : Prop := fnExactDifferentCellsRow.holds Try.pinned (OpenSpec.ofChange fnExactDifferentCellsWrong)

/-- 'laws.FnExactNewField': WHATEVER THE INPUT: true; the input reads as it did. -/
def fnExactNewFieldSpec : ChangeSpec := { name := "fnExactNewField", fn := fun _ => fun
  | [d1, d2, d3] => { results := [.lit (.bool true)], args := [d1, d2, d3] }
  | _ => none }
def fnExactNewFieldRow : OpenClaim := { program := "ytngbdlkcpkkeoaa", sum := "2fab9ffed64320584c3b695e2febf311999692efb6aae33f729bfe6e54131446", func := "loop.example/g00889/laws.FnExactNewField", spec := "fnExactNewField", apart := false }
def FnExactNewFieldSaid : Prop := fnExactNewFieldRow.holds Try.pinned (OpenSpec.ofChange fnExactNewFieldSpec)

/-- ITS FALSE NEIGHBOUR: 'it returns false'. Refute it at one input. -/
def fnExactNewFieldWrong : ChangeSpec := { name := "fnExactNewField", fn := fun _ => fun
  | [d1, d2, d3] => { results := [.lit (.bool false)], args := [d1, d2, d3] }
  | _ => none }
def FnExactNewFieldWrongFalsely : Prop := fnExactNewFieldRow.holds Try.pinned (OpenSpec.ofChange fnExactNewFieldWrong)

/-- 'laws.FnExactCountMissing': WHATEVER THE INPUT: true; the input reads as it did. -/
def fnExactCountMissingSpec : ChangeSpec := { name := "fnExactCountMissing", fn := fun _ => fun
  | [d] => { results := [.lit (.bool true)], args := [d] }
  | _ => none }
def fnExactCountMissingRow : OpenClaim := { program := "ytngbdlkcpkkeoaa", sum := "2fab9ffed64320584c3b695e2febf311999692efb6aae33f729bfe6e54131446", func := "loop.example/g00889/laws.FnExactCountMissing", spec := "fnExactCountMissing", unfollowed := true, recurses := true, apart := false }
def FnExactCountMissingSaid : Prop := fnExactCountMissingRow.holds Try.pinned (OpenSpec.ofChange fnExactCountMissingSpec)

/-- ITS FALSE NEIGHBOUR: 'it returns false'. Refute it at one input. -/
def fnExactCountMissingWrong : ChangeSpec := { name := "fnExactCountMissing", fn := fun _ => fun
  | [d] => { results := [.lit (.bool false)], args := [d] }
  | _ => none }
def FnExactCountMissingWrongFalsely : Prop := fnExactCountMissingRow.holds Try.pinned (OpenSpec.ofChange fnExactCountMissingWrong)

/-- 'laws.FnExactFieldTotal': WHATEVER THE INPUT: true; the input reads as it did. -/
def fnExactFieldTotalSpec : ChangeSpec := { name := "fnExactFieldTotal", fn := fun _ => fun
  | [d] => { results := [.lit (.bool true)], args := [d] }
  | _ => none }
def fnExactFieldTotalRow : OpenClaim := { program := "ytngbdlkcpkkeoaa", sum := "2fab9ffed64320584c3b695e2febf311999692efb6aae33f729bfe6e54131446", func := "loop.example/g00889/laws.FnExactFieldTotal", spec := "fnExactFieldTotal", unfollowed := true, recurses := true, apart := false }
def FnExactFieldTotalSaid : Prop := fnExactFieldTotalRow.holds Try.pinned (OpenSpec.ofChange fnExactFieldTotalSpec)

/-- ITS FALSE NEIGHBOUR: 'it returns false'. Refute it at one input. -/
def fnExactFieldTotalWrong : ChangeSpec := { name := "fnExactFieldTotal", fn := fun _ => fun
  | [d] => { results := [.lit (.bool false)], args := [d] }
  | _ => none }
def FnExactFieldTotalWrongFalsely : Prop := fnExactFieldTotalRow.holds Try.pinned (OpenSpec.ofChange fnExactFieldTotalWrong)

/-- 'laws.FnExactSetCell': WHATEVER THE INPUT: true; the input reads as it did. -/
def fnExactSetCellSpec : ChangeSpec := { name := "fnExactSetCell", fn := fun _ => fun
  | [d1, d2, d3, d4] => { results := [.lit (.bool true)], args := [d1, d2, d3, d4] }
  | _ => none }
def fnExactSetCellRow : OpenClaim := { program := "ytngbdlkcpkkeoaa", sum := "2fab9ffed64320584c3b695e2febf311999692efb6aae33f729bfe6e54131446", func := "loop.example/g00889/laws.FnExactSetCell", spec := "fnExactSetCell", unfollowed := true, recurses := true, apart := false }
def FnExactSetCellSaid : Prop := fnExactSetCellRow.holds Try.pinned (OpenSpec.ofChange fnExactSetCellSpec)

/-- ITS FALSE NEIGHBOUR: 'it returns false'. Refute it at one input. -/
def fnExactSetCellWrong : ChangeSpec := { name := "fnExactSetCell", fn := fun _ => fun
  | [d1, d2, d3, d4] => { results := [.lit (.bool false)], args := [d1, d2, d3, d4] }
  | _ => none }
def FnExactSetCellWrongFalsely : Prop := fnExactSetCellRow.holds Try.pinned (OpenSpec.ofChange fnExactSetCellWrong)

/-- 'laws.FnExactDepth': WHATEVER THE INPUT: true; the input reads as it did. -/
def fnExactDepthSpec : ChangeSpec := { name := "fnExactDepth", fn := fun _ => fun
  | [d] => { results := [.lit (.bool true)], args := [d] }
  | _ => none }
def fnExactDepthRow : OpenClaim := { program := "ytngbdlkcpkkeoaa", sum := "2fab9ffed64320584c3b695e2febf311999692efb6aae33f729bfe6e54131446", func := "loop.example/g00889/laws.FnExactDepth", spec := "fnExactDepth", recurses := true, apart := false }
def FnExactDepthSaid : Prop := fnExactDepthRow.holds Try.pinned (OpenSpec.ofChange fnExactDepthSpec)

/-- ITS FALSE NEIGHBOUR: 'it returns false'. Refute it at one input. -/
def fnExactDepthWrong : ChangeSpec := { name := "fnExactDepth", fn := fun _ => fun
  | [d] => { results := [.lit (.bool false)], args := [d] }
  | _ => none }
def FnExactDepthWrongFalsely : Prop := fnExactDepthRow.holds Try.pinned (OpenSpec.ofChange fnExactDepthWrong)

/-- 'laws.FnExactReplaceField': WHATEVER THE INPUT: true; the input reads as it did. -/
def fnExactReplaceFieldSpec : ChangeSpec := { name := "fnExactReplaceField", fn := fun _ => fun
  | [d1, d2, d3] => { results := [.lit (.bool true)], args := [d1, d2, d3] }
  | _ => none }
def fnExactReplaceFieldRow : OpenClaim := { program := "ytngbdlkcpkkeoaa", sum := "2fab9ffed64320584c3b695e2febf311999692efb6aae33f729bfe6e54131446", func := "loop.example/g00889/laws.FnExactReplaceField", spec := "fnExactReplaceField", apart := false }
def FnExactReplaceFieldSaid : Prop := fnExactReplaceFieldRow.holds Try.pinned (OpenSpec.ofChange fnExactReplaceFieldSpec)

/-- ITS FALSE NEIGHBOUR: 'it returns false'. Refute it at one input. -/
def fnExactReplaceFieldWrong : ChangeSpec := { name := "fnExactReplaceField", fn := fun _ => fun
  | [d1, d2, d3] => { results := [.lit (.bool false)], args := [d1, d2, d3] }
  | _ => none }
def FnExactReplaceFieldWrongFalsely : Prop := fnExactReplaceFieldRow.holds Try.pinned (OpenSpec.ofChange fnExactReplaceFieldWrong)

/-- 'laws.FnExactFieldRange': WHATEVER THE INPUT: true; the input reads as it did. -/
def fnExactFieldRangeSpec : ChangeSpec := { name := "fnExactFieldRange", fn := fun _ => fun
  | [d] => { results := [.lit (.bool true)], args := [d] }
  | _ => none }
def fnExactFieldRangeRow : OpenClaim := { program := "ytngbdlkcpkkeoaa", sum := "2fab9ffed64320584c3b695e2febf311999692efb6aae33f729bfe6e54131446", func := "loop.example/g00889/laws.FnExactFieldRange", spec := "fnExactFieldRange", unfollowed := true, recurses := true, apart := false }
def FnExactFieldRangeSaid : Prop := fnExactFieldRangeRow.holds Try.pinned (OpenSpec.ofChange fnExactFieldRangeSpec)

/-- ITS FALSE NEIGHBOUR: 'it returns false'. Refute it at one input. -/
def fnExactFieldRangeWrong : ChangeSpec := { name := "fnExactFieldRange", fn := fun _ => fun
  | [d] => { results := [.lit (.bool false)], args := [d] }
  | _ => none }
def FnExactFieldRangeWrongFalsely : Prop := fnExactFieldRangeRow.holds Try.pinned (OpenSpec.ofChange fnExactFieldRangeWrong)

/-- 'laws.FnExactChoosePart': WHATEVER THE INPUT: true; the input reads as it did. -/
def fnExactChoosePartSpec : ChangeSpec := { name := "fnExactChoosePart", fn := fun _ => fun
  | [d1, d2, d3] => { results := [.lit (.bool true)], args := [d1, d2, d3] }
  | _ => none }
def fnExactChoosePartRow : OpenClaim := { program := "ytngbdlkcpkkeoaa", sum := "2fab9ffed64320584c3b695e2febf311999692efb6aae33f729bfe6e54131446", func := "loop.example/g00889/laws.FnExactChoosePart", spec := "fnExactChoosePart", unfollowed := true, recurses := true, apart := false }
def FnExactChoosePartSaid : Prop := fnExactChoosePartRow.holds Try.pinned (OpenSpec.ofChange fnExactChoosePartSpec)

/-- ITS FALSE NEIGHBOUR: 'it returns false'. Refute it at one input. -/
def fnExactChoosePartWrong : ChangeSpec := { name := "fnExactChoosePart", fn := fun _ => fun
  | [d1, d2, d3] => { results := [.lit (.bool false)], args := [d1, d2, d3] }
  | _ => none }
def FnExactChoosePartWrongFalsely : Prop := fnExactChoosePartRow.holds Try.pinned (OpenSpec.ofChange fnExactChoosePartWrong)

/-- 'laws.FnExactExceeds': WHATEVER THE INPUT: true; the input reads as it did. -/
def fnExactExceedsSpec : ChangeSpec := { name := "fnExactExceeds", fn := fun _ => fun
  | [d1, d2] => { results := [.lit (.bool true)], args := [d1, d2] }
  | _ => none }
def fnExactExceedsRow : OpenClaim := { program := "ytngbdlkcpkkeoaa", sum := "2fab9ffed64320584c3b695e2febf311999692efb6aae33f729bfe6e54131446", func := "loop.example/g00889/laws.FnExactExceeds", spec := "fnExactExceeds", unfollowed := true, recurses := true, apart := false }
def FnExactExceedsSaid : Prop := fnExactExceedsRow.holds Try.pinned (OpenSpec.ofChange fnExactExceedsSpec)

/-- ITS FALSE NEIGHBOUR: 'it returns false'. Refute it at one input. -/
def fnExactExceedsWrong : ChangeSpec := { name := "fnExactExceeds", fn := fun _ => fun
  | [d1, d2] => { results := [.lit (.bool false)], args := [d1, d2] }
  | _ => none }
def FnExactExceedsWrongFalsely : Prop := fnExactExceedsRow.holds Try.pinned (OpenSpec.ofChange fnExactExceedsWrong)

/-- 'laws.FnExactAbsoluteField': WHATEVER THE INPUT: true; the input reads as it did. -/
def fnExactAbsoluteFieldSpec : ChangeSpec := { name := "fnExactAbsoluteField", fn := fun _ => fun
  | [d] => { results := [.lit (.bool true)], args := [d] }
  | _ => none }
def fnExactAbsoluteFieldRow : OpenClaim := { program := "ytngbdlkcpkkeoaa", sum := "2fab9ffed64320584c3b695e2febf311999692efb6aae33f729bfe6e54131446", func := "loop.example/g00889/laws.FnExactAbsoluteField", spec := "fnExactAbsoluteField", unfollowed := true, recurses := true, apart := false }
def FnExactAbsoluteFieldSaid : Prop := fnExactAbsoluteFieldRow.holds Try.pinned (OpenSpec.ofChange fnExactAbsoluteFieldSpec)

/-- ITS FALSE NEIGHBOUR: 'it returns false'. Refute it at one input. -/
def fnExactAbsoluteFieldWrong : ChangeSpec := { name := "fnExactAbsoluteField", fn := fun _ => fun
  | [d] => { results := [.lit (.bool false)], args := [d] }
  | _ => none }
def FnExactAbsoluteFieldWrongFalsely : Prop := fnExactAbsoluteFieldRow.holds Try.pinned (OpenSpec.ofChange fnExactAbsoluteFieldWrong)

/- THE SECOND FORM. 'bulk': how many values and letters a reading holds, each counted each time it is reached (what is shared counts as often as it is met; a slice's spare places count too). A statement '..UptoSaid' is the law's where the arguments, and the package variables that the reading takes, are together of bulk at most 1048576: NARROWER than '..Said'. Prove '..Said' where nothing that the law and all that it calls make is longer than what came in: it says more and counts as full. Else prove '..UptoSaid'. A law counts once. -/
mutual
def uptoBulk {H : Type} : DataW H → Nat
  | .lit (.string bytes) => bytes.length + 1
  | .lit _ => 1
  | .nil => 1
  | .ptr d => uptoBulk d + 1
  | .slice elems spare => uptoBulkAll elems + uptoBulkAll spare + 1
  | .agg parts => uptoBulkAll parts + 1
  | .iface _ d => uptoBulk d + 1
  | .map entries => uptoBulkEntries entries + 1
  | .held _ => 1
def uptoBulkAll {H : Type} : List (DataW H) → Nat
  | [] => 0
  | d :: r => uptoBulk d + uptoBulkAll r
def uptoBulkEntries {H : Type} : List (Lit × DataW H) → Nat
  | [] => 0
  | x :: r => uptoBulkEntry x + uptoBulkEntries r
def uptoBulkEntry {H : Type} : Lit × DataW H → Nat
  | (.string bytes, d) => bytes.length + uptoBulk d + 1
  | (_, d) => uptoBulk d + 1
 end
def uptoSmall : (H : Type) → List (DataW H) → Bool := fun _ ds => decide (uptoBulkAll ds ≤ 1048576)
def OpenSpec.upto (s : _root_.Go.ChangeSpec) : _root_.Go.OpenSpec := { _root_.Go.OpenSpec.ofChange s with cond := some uptoSmall }

/-- 'laws.FnExactIsExpression', WHERE WHAT IT READS IS OF BULK AT MOST 1048576: true; the input reads as it did. -/
def fnExactIsExpressionUptoRow : OpenClaim := { program := "ytngbdlkcpkkeoaa", sum := "2fab9ffed64320584c3b695e2febf311999692efb6aae33f729bfe6e54131446", func := "loop.example/g00889/laws.FnExactIsExpression", spec := "fnExactIsExpression", apart := false, narrowed := true }
def FnExactIsExpressionUptoSaid : Prop := fnExactIsExpressionUptoRow.holds Try.pinned (OpenSpec.upto fnExactIsExpressionSpec)

/-- 'laws.FnExactDifferentCells', WHERE WHAT IT READS IS OF BULK AT MOST 1048576: true; the input reads as it did. -/
def fnExactDifferentCellsUptoRow : OpenClaim := { program := "ytngbdlkcpkkeoaa", sum := "2fab9ffed64320584c3b695e2febf311999692efb6aae33f729bfe6e54131446", func := "loop.example/g00889/laws.FnExactDifferentCells", spec := "fnExactDifferentCells", unfollowed := true, recurses := true, apart := false, narrowed := true }
def FnExactDifferentCellsUptoSaid : Prop := fnExactDifferentCellsUptoRow.holds Try.pinned (OpenSpec.upto fnExactDifferentCellsSpec)

/-- 'laws.FnExactNewField', WHERE WHAT IT READS IS OF BULK AT MOST 1048576: true; the input reads as it did. -/
def fnExactNewFieldUptoRow : OpenClaim := { program := "ytngbdlkcpkkeoaa", sum := "2fab9ffed64320584c3b695e2febf311999692efb6aae33f729bfe6e54131446", func := "loop.example/g00889/laws.FnExactNewField", spec := "fnExactNewField", apart := false, narrowed := true }
def FnExactNewFieldUptoSaid : Prop := fnExactNewFieldUptoRow.holds Try.pinned (OpenSpec.upto fnExactNewFieldSpec)

/-- 'laws.FnExactCountMissing', WHERE WHAT IT READS IS OF BULK AT MOST 1048576: true; the input reads as it did. -/
def fnExactCountMissingUptoRow : OpenClaim := { program := "ytngbdlkcpkkeoaa", sum := "2fab9ffed64320584c3b695e2febf311999692efb6aae33f729bfe6e54131446", func := "loop.example/g00889/laws.FnExactCountMissing", spec := "fnExactCountMissing", unfollowed := true, recurses := true, apart := false, narrowed := true }
def FnExactCountMissingUptoSaid : Prop := fnExactCountMissingUptoRow.holds Try.pinned (OpenSpec.upto fnExactCountMissingSpec)

/-- 'laws.FnExactFieldTotal', WHERE WHAT IT READS IS OF BULK AT MOST 1048576: true; the input reads as it did. -/
def fnExactFieldTotalUptoRow : OpenClaim := { program := "ytngbdlkcpkkeoaa", sum := "2fab9ffed64320584c3b695e2febf311999692efb6aae33f729bfe6e54131446", func := "loop.example/g00889/laws.FnExactFieldTotal", spec := "fnExactFieldTotal", unfollowed := true, recurses := true, apart := false, narrowed := true }
def FnExactFieldTotalUptoSaid : Prop := fnExactFieldTotalUptoRow.holds Try.pinned (OpenSpec.upto fnExactFieldTotalSpec)

/-- 'laws.FnExactSetCell', WHERE WHAT IT READS IS OF BULK AT MOST 1048576: true; the input reads as it did. -/
def fnExactSetCellUptoRow : OpenClaim := { program := "ytngbdlkcpkkeoaa", sum := "2fab9ffed64320584c3b695e2febf311999692efb6aae33f729bfe6e54131446", func := "loop.example/g00889/laws.FnExactSetCell", spec := "fnExactSetCell", unfollowed := true, recurses := true, apart := false, narrowed := true }
def FnExactSetCellUptoSaid : Prop := fnExactSetCellUptoRow.holds Try.pinned (OpenSpec.upto fnExactSetCellSpec)

/-- 'laws.FnExactDepth', WHERE WHAT IT READS IS OF BULK AT MOST 1048576: true; the input reads as it did. -/
def fnExactDepthUptoRow : OpenClaim := { program := "ytngbdlkcpkkeoaa", sum := "2fab9ffed64320584c3b695e2febf311999692efb6aae33f729bfe6e54131446", func := "loop.example/g00889/laws.FnExactDepth", spec := "fnExactDepth", recurses := true, apart := false, narrowed := true }
def FnExactDepthUptoSaid : Prop := fnExactDepthUptoRow.holds Try.pinned (OpenSpec.upto fnExactDepthSpec)

/-- 'laws.FnExactReplaceField', WHERE WHAT IT READS IS OF BULK AT MOST 1048576: true; the input reads as it did. -/
def fnExactReplaceFieldUptoRow : OpenClaim := { program := "ytngbdlkcpkkeoaa", sum := "2fab9ffed64320584c3b695e2febf311999692efb6aae33f729bfe6e54131446", func := "loop.example/g00889/laws.FnExactReplaceField", spec := "fnExactReplaceField", apart := false, narrowed := true }
def FnExactReplaceFieldUptoSaid : Prop := fnExactReplaceFieldUptoRow.holds Try.pinned (OpenSpec.upto fnExactReplaceFieldSpec)

/-- 'laws.FnExactFieldRange', WHERE WHAT IT READS IS OF BULK AT MOST 1048576: true; the input reads as it did. -/
def fnExactFieldRangeUptoRow : OpenClaim := { program := "ytngbdlkcpkkeoaa", sum := "2fab9ffed64320584c3b695e2febf311999692efb6aae33f729bfe6e54131446", func := "loop.example/g00889/laws.FnExactFieldRange", spec := "fnExactFieldRange", unfollowed := true, recurses := true, apart := false, narrowed := true }
def FnExactFieldRangeUptoSaid : Prop := fnExactFieldRangeUptoRow.holds Try.pinned (OpenSpec.upto fnExactFieldRangeSpec)

/-- 'laws.FnExactChoosePart', WHERE WHAT IT READS IS OF BULK AT MOST 1048576: true; the input reads as it did. -/
def fnExactChoosePartUptoRow : OpenClaim := { program := "ytngbdlkcpkkeoaa", sum := "2fab9ffed64320584c3b695e2febf311999692efb6aae33f729bfe6e54131446", func := "loop.example/g00889/laws.FnExactChoosePart", spec := "fnExactChoosePart", unfollowed := true, recurses := true, apart := false, narrowed := true }
def FnExactChoosePartUptoSaid : Prop := fnExactChoosePartUptoRow.holds Try.pinned (OpenSpec.upto fnExactChoosePartSpec)

/-- 'laws.FnExactExceeds', WHERE WHAT IT READS IS OF BULK AT MOST 1048576: true; the input reads as it did. -/
def fnExactExceedsUptoRow : OpenClaim := { program := "ytngbdlkcpkkeoaa", sum := "2fab9ffed64320584c3b695e2febf311999692efb6aae33f729bfe6e54131446", func := "loop.example/g00889/laws.FnExactExceeds", spec := "fnExactExceeds", unfollowed := true, recurses := true, apart := false, narrowed := true }
def FnExactExceedsUptoSaid : Prop := fnExactExceedsUptoRow.holds Try.pinned (OpenSpec.upto fnExactExceedsSpec)

/-- 'laws.FnExactAbsoluteField', WHERE WHAT IT READS IS OF BULK AT MOST 1048576: true; the input reads as it did. -/
def fnExactAbsoluteFieldUptoRow : OpenClaim := { program := "ytngbdlkcpkkeoaa", sum := "2fab9ffed64320584c3b695e2febf311999692efb6aae33f729bfe6e54131446", func := "loop.example/g00889/laws.FnExactAbsoluteField", spec := "fnExactAbsoluteField", unfollowed := true, recurses := true, apart := false, narrowed := true }
def FnExactAbsoluteFieldUptoSaid : Prop := fnExactAbsoluteFieldUptoRow.holds Try.pinned (OpenSpec.upto fnExactAbsoluteFieldSpec)

end Rows
end Go.Proofs.Ytngbdlkcpkkeoaa
