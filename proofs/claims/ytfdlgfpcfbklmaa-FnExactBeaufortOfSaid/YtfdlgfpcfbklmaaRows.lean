/-
  No cell of these rows narrows 'for every input' (looked for: loops, veiled, ifaces, maps, wideKeys, modest, calm, conditions, laid).
  DERIVED. THE GIVEN ROWS OF THIS SEAT. 12 by the template 'for every input the law returns true; each argument reads behind the call as it read before'; 0 by the template 'total and deterministic' (their statements: YtfdlgfpcfbklmaaTotals.lean).
  GIVEN WITH THE SEED: the statements are not yours to turn. If you find one false, say at which input.
  Laid BY PROGRAM, IN A SANDBOX (cutbox-rows.mjs): the forced cells as the released guide's own fill.sh prints them over the translation 205e11730bc3178a… (all of the seat's roots in one cut). By AI agents, Wed Nov 11 2026. No macro, syntax, notation, axiom, sorry.
-/
import Derived.Test.YtfdlgfpcfbklmaaChecked
import GoSem.Claim
import GoSem.ClaimJoined
import GoSem.ClaimMapViews
import Derived.JoinedTies
import Derived.KernelRfl
namespace Go.Proofs.Ytfdlgfpcfbklmaa
/- THE CELL 'sum', in the pinned program and in every row, IS THE sha256 OF THE DUMP (.gsa) THAT YtfdlgfpcfbklmaaProg.lean LOADS. Nothing in Lean hashes anything: it is a label: what it is worth is what the hold of that sum in a sandbox is worth. -/
noncomputable def Try.pinned : Pinned := { name := "ytfdlgfpcfbklmaa", sum := "205e11730bc3178a98db2c757d31176a1292ddaf068c5bd27bf1895d50d47379", checked := Try.checked }
namespace Rows
def none {H : Type} : Left H := { results := [], args := [] }

/-- 'laws.FnExactConstants': WHATEVER THE INPUT: true; the input reads as it did. -/
def fnExactConstantsSpec : ChangeSpec := { name := "fnExactConstants", fn := fun _ => fun
  | [] => { results := [.lit (.bool true)], args := [] }
  | _ => none }
def fnExactConstantsRow : OpenClaim := { program := "ytfdlgfpcfbklmaa", sum := "205e11730bc3178a98db2c757d31176a1292ddaf068c5bd27bf1895d50d47379", func := "loop.example/g00889/laws.FnExactConstants", spec := "fnExactConstants", apart := false }
def FnExactConstantsSaid : Prop := fnExactConstantsRow.holds Try.pinned (OpenSpec.ofChange fnExactConstantsSpec)

/-- ITS FALSE NEIGHBOUR: 'it returns false'. Refute it at one input. -/
def fnExactConstantsWrong : ChangeSpec := { name := "fnExactConstants", fn := fun _ => fun
  | [] => { results := [.lit (.bool false)], args := [] }
  | _ => none }
def FnExactConstantsWrongFalsely : Prop := fnExactConstantsRow.holds Try.pinned (OpenSpec.ofChange fnExactConstantsWrong)

/-- 'laws.FnExactLessString': WHATEVER THE INPUT: true; the input reads as it did. -/
def fnExactLessStringSpec : ChangeSpec := { name := "fnExactLessString", fn := fun _ => fun
  | [d1, d2] => { results := [.lit (.bool true)], args := [d1, d2] }
  | _ => none }
def fnExactLessStringRow : OpenClaim := { program := "ytfdlgfpcfbklmaa", sum := "205e11730bc3178a98db2c757d31176a1292ddaf068c5bd27bf1895d50d47379", func := "loop.example/g00889/laws.FnExactLessString", spec := "fnExactLessString", apart := false }
def FnExactLessStringSaid : Prop := fnExactLessStringRow.holds Try.pinned (OpenSpec.ofChange fnExactLessStringSpec)

/-- ITS FALSE NEIGHBOUR: 'it returns false'. Refute it at one input. -/
def fnExactLessStringWrong : ChangeSpec := { name := "fnExactLessString", fn := fun _ => fun
  | [d1, d2] => { results := [.lit (.bool false)], args := [d1, d2] }
  | _ => none }
def FnExactLessStringWrongFalsely : Prop := fnExactLessStringRow.holds Try.pinned (OpenSpec.ofChange fnExactLessStringWrong)

/-- 'laws.FnExactChecksum': WHATEVER THE INPUT: true; the input reads as it did. -/
def fnExactChecksumSpec : ChangeSpec := { name := "fnExactChecksum", fn := fun _ => fun
  | [d] => { results := [.lit (.bool true)], args := [d] }
  | _ => none }
def fnExactChecksumRow : OpenClaim := { program := "ytfdlgfpcfbklmaa", sum := "205e11730bc3178a98db2c757d31176a1292ddaf068c5bd27bf1895d50d47379", func := "loop.example/g00889/laws.FnExactChecksum", spec := "fnExactChecksum", apart := false }
def FnExactChecksumSaid : Prop := fnExactChecksumRow.holds Try.pinned (OpenSpec.ofChange fnExactChecksumSpec)

/-- ITS FALSE NEIGHBOUR: 'it returns false'. Refute it at one input. -/
def fnExactChecksumWrong : ChangeSpec := { name := "fnExactChecksum", fn := fun _ => fun
  | [d] => { results := [.lit (.bool false)], args := [d] }
  | _ => none }
def FnExactChecksumWrongFalsely : Prop := fnExactChecksumRow.holds Try.pinned (OpenSpec.ofChange fnExactChecksumWrong)

/-- 'laws.FnExactUnitWord': WHATEVER THE INPUT: true; the input reads as it did. -/
def fnExactUnitWordSpec : ChangeSpec := { name := "fnExactUnitWord", fn := fun _ => fun
  | [d] => { results := [.lit (.bool true)], args := [d] }
  | _ => none }
def fnExactUnitWordRow : OpenClaim := { program := "ytfdlgfpcfbklmaa", sum := "205e11730bc3178a98db2c757d31176a1292ddaf068c5bd27bf1895d50d47379", func := "loop.example/g00889/laws.FnExactUnitWord", spec := "fnExactUnitWord", apart := false }
def FnExactUnitWordSaid : Prop := fnExactUnitWordRow.holds Try.pinned (OpenSpec.ofChange fnExactUnitWordSpec)

/-- ITS FALSE NEIGHBOUR: 'it returns false'. Refute it at one input. -/
def fnExactUnitWordWrong : ChangeSpec := { name := "fnExactUnitWord", fn := fun _ => fun
  | [d] => { results := [.lit (.bool false)], args := [d] }
  | _ => none }
def FnExactUnitWordWrongFalsely : Prop := fnExactUnitWordRow.holds Try.pinned (OpenSpec.ofChange fnExactUnitWordWrong)

/-- 'laws.FnExactRoundTenths': WHATEVER THE INPUT: true; the input reads as it did. -/
def fnExactRoundTenthsSpec : ChangeSpec := { name := "fnExactRoundTenths", fn := fun _ => fun
  | [d1, d2] => { results := [.lit (.bool true)], args := [d1, d2] }
  | _ => none }
def fnExactRoundTenthsRow : OpenClaim := { program := "ytfdlgfpcfbklmaa", sum := "205e11730bc3178a98db2c757d31176a1292ddaf068c5bd27bf1895d50d47379", func := "loop.example/g00889/laws.FnExactRoundTenths", spec := "fnExactRoundTenths", apart := false }
def FnExactRoundTenthsSaid : Prop := fnExactRoundTenthsRow.holds Try.pinned (OpenSpec.ofChange fnExactRoundTenthsSpec)

/-- ITS FALSE NEIGHBOUR: 'it returns false'. Refute it at one input. -/
def fnExactRoundTenthsWrong : ChangeSpec := { name := "fnExactRoundTenths", fn := fun _ => fun
  | [d1, d2] => { results := [.lit (.bool false)], args := [d1, d2] }
  | _ => none }
def FnExactRoundTenthsWrongFalsely : Prop := fnExactRoundTenthsRow.holds Try.pinned (OpenSpec.ofChange fnExactRoundTenthsWrong)

/-- 'laws.FnExactParseUnit': WHATEVER THE INPUT: true; the input reads as it did. -/
def fnExactParseUnitSpec : ChangeSpec := { name := "fnExactParseUnit", fn := fun _ => fun
  | [d] => { results := [.lit (.bool true)], args := [d] }
  | _ => none }
def fnExactParseUnitRow : OpenClaim := { program := "ytfdlgfpcfbklmaa", sum := "205e11730bc3178a98db2c757d31176a1292ddaf068c5bd27bf1895d50d47379", func := "loop.example/g00889/laws.FnExactParseUnit", spec := "fnExactParseUnit", apart := false }
def FnExactParseUnitSaid : Prop := fnExactParseUnitRow.holds Try.pinned (OpenSpec.ofChange fnExactParseUnitSpec)

/-- ITS FALSE NEIGHBOUR: 'it returns false'. Refute it at one input. -/
def fnExactParseUnitWrong : ChangeSpec := { name := "fnExactParseUnit", fn := fun _ => fun
  | [d] => { results := [.lit (.bool false)], args := [d] }
  | _ => none }
def FnExactParseUnitWrongFalsely : Prop := fnExactParseUnitRow.holds Try.pinned (OpenSpec.ofChange fnExactParseUnitWrong)

/-- 'laws.FnExactSameKind': WHATEVER THE INPUT: true; the input reads as it did. -/
def fnExactSameKindSpec : ChangeSpec := { name := "fnExactSameKind", fn := fun _ => fun
  | [d1, d2] => { results := [.lit (.bool true)], args := [d1, d2] }
  | _ => none }
def fnExactSameKindRow : OpenClaim := { program := "ytfdlgfpcfbklmaa", sum := "205e11730bc3178a98db2c757d31176a1292ddaf068c5bd27bf1895d50d47379", func := "loop.example/g00889/laws.FnExactSameKind", spec := "fnExactSameKind", apart := false }
def FnExactSameKindSaid : Prop := fnExactSameKindRow.holds Try.pinned (OpenSpec.ofChange fnExactSameKindSpec)

/-- ITS FALSE NEIGHBOUR: 'it returns false'. Refute it at one input. -/
def fnExactSameKindWrong : ChangeSpec := { name := "fnExactSameKind", fn := fun _ => fun
  | [d1, d2] => { results := [.lit (.bool false)], args := [d1, d2] }
  | _ => none }
def FnExactSameKindWrongFalsely : Prop := fnExactSameKindRow.holds Try.pinned (OpenSpec.ofChange fnExactSameKindWrong)

/-- 'laws.FnExactWarmerThan': WHATEVER THE INPUT: true; the input reads as it did. -/
def fnExactWarmerThanSpec : ChangeSpec := { name := "fnExactWarmerThan", fn := fun _ => fun
  | [d1, d2, d3, d4] => { results := [.lit (.bool true)], args := [d1, d2, d3, d4] }
  | _ => none }
def fnExactWarmerThanRow : OpenClaim := { program := "ytfdlgfpcfbklmaa", sum := "205e11730bc3178a98db2c757d31176a1292ddaf068c5bd27bf1895d50d47379", func := "loop.example/g00889/laws.FnExactWarmerThan", spec := "fnExactWarmerThan", apart := false }
def FnExactWarmerThanSaid : Prop := fnExactWarmerThanRow.holds Try.pinned (OpenSpec.ofChange fnExactWarmerThanSpec)

/-- ITS FALSE NEIGHBOUR: 'it returns false'. Refute it at one input. -/
def fnExactWarmerThanWrong : ChangeSpec := { name := "fnExactWarmerThan", fn := fun _ => fun
  | [d1, d2, d3, d4] => { results := [.lit (.bool false)], args := [d1, d2, d3, d4] }
  | _ => none }
def FnExactWarmerThanWrongFalsely : Prop := fnExactWarmerThanRow.holds Try.pinned (OpenSpec.ofChange fnExactWarmerThanWrong)

/-- 'laws.FnExactBeaufortOf': WHATEVER THE INPUT: true; the input reads as it did. -/
def fnExactBeaufortOfSpec : ChangeSpec := { name := "fnExactBeaufortOf", fn := fun _ => fun
  | [d1, d2] => { results := [.lit (.bool true)], args := [d1, d2] }
  | _ => none }
def fnExactBeaufortOfRow : OpenClaim := { program := "ytfdlgfpcfbklmaa", sum := "205e11730bc3178a98db2c757d31176a1292ddaf068c5bd27bf1895d50d47379", func := "loop.example/g00889/laws.FnExactBeaufortOf", spec := "fnExactBeaufortOf", apart := false }
def FnExactBeaufortOfSaid : Prop := fnExactBeaufortOfRow.holds Try.pinned (OpenSpec.ofChange fnExactBeaufortOfSpec)

/-- ITS FALSE NEIGHBOUR: 'it returns false'. Refute it at one input. -/
def fnExactBeaufortOfWrong : ChangeSpec := { name := "fnExactBeaufortOf", fn := fun _ => fun
  | [d1, d2] => { results := [.lit (.bool false)], args := [d1, d2] }
  | _ => none }
def FnExactBeaufortOfWrongFalsely : Prop := fnExactBeaufortOfRow.holds Try.pinned (OpenSpec.ofChange fnExactBeaufortOfWrong)

/-- 'laws.FnExactIsValidField': WHATEVER THE INPUT: true; the input reads as it did. -/
def fnExactIsValidFieldSpec : ChangeSpec := { name := "fnExactIsValidField", fn := fun _ => fun
  | [d] => { results := [.lit (.bool true)], args := [d] }
  | _ => none }
def fnExactIsValidFieldRow : OpenClaim := { program := "ytfdlgfpcfbklmaa", sum := "205e11730bc3178a98db2c757d31176a1292ddaf068c5bd27bf1895d50d47379", func := "loop.example/g00889/laws.FnExactIsValidField", spec := "fnExactIsValidField", unfollowed := true, recurses := true, apart := false }
def FnExactIsValidFieldSaid : Prop := fnExactIsValidFieldRow.holds Try.pinned (OpenSpec.ofChange fnExactIsValidFieldSpec)

/-- ITS FALSE NEIGHBOUR: 'it returns false'. Refute it at one input. -/
def fnExactIsValidFieldWrong : ChangeSpec := { name := "fnExactIsValidField", fn := fun _ => fun
  | [d] => { results := [.lit (.bool false)], args := [d] }
  | _ => none }
def FnExactIsValidFieldWrongFalsely : Prop := fnExactIsValidFieldRow.holds Try.pinned (OpenSpec.ofChange fnExactIsValidFieldWrong)

/-- 'laws.FnExactCellAt': WHATEVER THE INPUT: true; the input reads as it did. -/
def fnExactCellAtSpec : ChangeSpec := { name := "fnExactCellAt", fn := fun _ => fun
  | [d1, d2, d3] => { results := [.lit (.bool true)], args := [d1, d2, d3] }
  | _ => none }
def fnExactCellAtRow : OpenClaim := { program := "ytfdlgfpcfbklmaa", sum := "205e11730bc3178a98db2c757d31176a1292ddaf068c5bd27bf1895d50d47379", func := "loop.example/g00889/laws.FnExactCellAt", spec := "fnExactCellAt", unfollowed := true, recurses := true, apart := false }
def FnExactCellAtSaid : Prop := fnExactCellAtRow.holds Try.pinned (OpenSpec.ofChange fnExactCellAtSpec)

/-- ITS FALSE NEIGHBOUR: 'it returns false'. Refute it at one input. -/
def fnExactCellAtWrong : ChangeSpec := { name := "fnExactCellAt", fn := fun _ => fun
  | [d1, d2, d3] => { results := [.lit (.bool false)], args := [d1, d2, d3] }
  | _ => none }
def FnExactCellAtWrongFalsely : Prop := fnExactCellAtRow.holds Try.pinned (OpenSpec.ofChange fnExactCellAtWrong)

/-- 'laws.FnExactConvertTenths': WHATEVER THE INPUT: true; the input reads as it did. -/
def fnExactConvertTenthsSpec : ChangeSpec := { name := "fnExactConvertTenths", fn := fun _ => fun
  | [d1, d2, d3] => { results := [.lit (.bool true)], args := [d1, d2, d3] }
  | _ => none }
def fnExactConvertTenthsRow : OpenClaim := { program := "ytfdlgfpcfbklmaa", sum := "205e11730bc3178a98db2c757d31176a1292ddaf068c5bd27bf1895d50d47379", func := "loop.example/g00889/laws.FnExactConvertTenths", spec := "fnExactConvertTenths", apart := false }
def FnExactConvertTenthsSaid : Prop := fnExactConvertTenthsRow.holds Try.pinned (OpenSpec.ofChange fnExactConvertTenthsSpec)

/-- ITS FALSE NEIGHBOUR: 'it returns false'. Refute it at one input. -/
def fnExactConvertTenthsWrong : ChangeSpec := { name := "fnExactConvertTenths", fn := fun _ => fun
  | [d1, d2, d3] => { results := [.lit (.bool false)], args := [d1, d2, d3] }
  | _ => none }
def FnExactConvertTenthsWrongFalsely : Prop := fnExactConvertTenthsRow.holds Try.pinned (OpenSpec.ofChange fnExactConvertTenthsWrong)

/- THE SECOND FORM. 'bulk': how many values and letters a reading holds, each counted each time it is reached (what is shared counts as often as it is met; a slice's spare places count too). A statement '..UptoSaid' is the law's where the arguments, and the package variables that the reading takes, are together of bulk at most 1048576: NARROWER than '..Said'. Prove '..Said' where nothing that the law and all that it calls make is longer than what came in: it says more and counts as full. Else prove '..UptoSaid'. A law counts once. -/
mutual
def uptoBulk {H : Type} : DataW H → Nat
  | .lit (.string bytes) => bytes.length + 1
  | .lit _ => 1
  | .nil => 1
  | .ptr d => uptoBulk d + 1
  | .slice elems spare => uptoBulkAll elems + uptoBulkAll spare + 1
  | .agg parts => uptoBulkAll parts + 1
  | .iface _ d => uptoBulk d + 1
  | .map entries => uptoBulkEntries entries + 1
  | .held _ => 1
def uptoBulkAll {H : Type} : List (DataW H) → Nat
  | [] => 0
  | d :: r => uptoBulk d + uptoBulkAll r
def uptoBulkEntries {H : Type} : List (Lit × DataW H) → Nat
  | [] => 0
  | x :: r => uptoBulkEntry x + uptoBulkEntries r
def uptoBulkEntry {H : Type} : Lit × DataW H → Nat
  | (.string bytes, d) => bytes.length + uptoBulk d + 1
  | (_, d) => uptoBulk d + 1
 end
def uptoSmall : (H : Type) → List (DataW H) → Bool := fun _ ds => decide (uptoBulkAll ds ≤ 1048576)
def OpenSpec.upto (s : _root_.Go.ChangeSpec) : _root_.Go.OpenSpec := { _root_.Go.OpenSpec.ofChange s with cond := some uptoSmall }

/-- 'laws.FnExactConstants', WHERE WHAT IT READS IS OF BULK AT MOST 1048576: true; the input reads as it did. -/
def fnExactConstantsUptoRow : OpenClaim := { program := "ytfdlgfpcfbklmaa", sum := "205e11730bc3178a98db2c757d31176a1292ddaf068c5bd27bf1895d50d47379", func := "loop.example/g00889/laws.FnExactConstants", spec := "fnExactConstants", apart := false, narrowed := true }
def FnExactConstantsUptoSaid : Prop := fnExactConstantsUptoRow.holds Try.pinned (OpenSpec.upto fnExactConstantsSpec)

/-- 'laws.FnExactLessString', WHERE WHAT IT READS IS OF BULK AT MOST 1048576: true; the input reads as it did. -/
def fnExactLessStringUptoRow : OpenClaim := { program := "ytfdlgfpcfbklmaa", sum := "205e11730bc3178a98db2c757d31176a1292ddaf068c5bd27bf1895d50d47379", func := "loop.example/g00889/laws.FnExactLessString", spec := "fnExactLessString", apart := false, narrowed := true }
def FnExactLessStringUptoSaid : Prop := fnExactLessStringUptoRow.holds Try.pinned (OpenSpec.upto fnExactLessStringSpec)

/-- 'laws.FnExactChecksum', WHERE WHAT IT READS IS OF BULK AT MOST 1048576: true; the input reads as it did. -/
def fnExactChecksumUptoRow : OpenClaim := { program := "ytfdlgfpcfbklmaa", sum := "205e11730bc3178a98db2c757d31176a1292ddaf068c5bd27bf1895d50d47379", func := "loop.example/g00889/laws.FnExactChecksum", spec := "fnExactChecksum", apart := false, narrowed := true }
def FnExactChecksumUptoSaid : Prop := fnExactChecksumUptoRow.holds Try.pinned (OpenSpec.upto fnExactChecksumSpec)

/-- 'laws.FnExactUnitWord', WHERE WHAT IT READS IS OF BULK AT MOST 1048576: true; the input reads as it did. -/
def fnExactUnitWordUptoRow : OpenClaim := { program := "ytfdlgfpcfbklmaa", sum := "205e11730bc3178a98db2c757d31176a1292ddaf068c5bd27bf1895d50d47379", func := "loop.example/g00889/laws.FnExactUnitWord", spec := "fnExactUnitWord", apart := false, narrowed := true }
def FnExactUnitWordUptoSaid : Prop := fnExactUnitWordUptoRow.holds Try.pinned (OpenSpec.upto fnExactUnitWordSpec)

/-- 'laws.FnExactRoundTenths', WHERE WHAT IT READS IS OF BULK AT MOST 1048576: true; the input reads as it did. -/
def fnExactRoundTenthsUptoRow : OpenClaim := { program := "ytfdlgfpcfbklmaa", sum := "205e11730bc3178a98db2c757d31176a1292ddaf068c5bd27bf1895d50d47379", func := "loop.example/g00889/laws.FnExactRoundTenths", spec := "fnExactRoundTenths", apart := false, narrowed := true }
def FnExactRoundTenthsUptoSaid : Prop := fnExactRoundTenthsUptoRow.holds Try.pinned (OpenSpec.upto fnExactRoundTenthsSpec)

/-- 'laws.FnExactParseUnit', WHERE WHAT IT READS IS OF BULK AT MOST 1048576: true; the input reads as it did. -/
def fnExactParseUnitUptoRow : OpenClaim := { program := "ytfdlgfpcfbklmaa", sum := "205e11730bc3178a98db2c757d31176a1292ddaf068c5bd27bf1895d50d47379", func := "loop.example/g00889/laws.FnExactParseUnit", spec := "fnExactParseUnit", apart := false, narrowed := true }
def FnExactParseUnitUptoSaid : Prop := fnExactParseUnitUptoRow.holds Try.pinned (OpenSpec.upto fnExactParseUnitSpec)

/-- 'laws.FnExactSameKind', WHERE WHAT IT READS IS OF BULK AT MOST 1048576: true; the input reads as it did. -/
def fnExactSameKindUptoRow : OpenClaim := { program := "ytfdlgfpcfbklmaa", sum := "205e11730bc3178a98db2c757d31176a1292ddaf068c5bd27bf1895d50d47379", func := "loop.example/g00889/laws.FnExactSameKind", spec := "fnExactSameKind", apart := false, narrowed := true }
def FnExactSameKindUptoSaid : Prop := fnExactSameKindUptoRow.holds Try.pinned (OpenSpec.upto fnExactSameKindSpec)

/-- 'laws.FnExactWarmerThan', WHERE WHAT IT READS IS OF BULK AT MOST 1048576: true; the input reads as it did. -/
def fnExactWarmerThanUptoRow : OpenClaim := { program := "ytfdlgfpcfbklmaa", sum := "205e11730bc3178a98db2c757d31176a1292ddaf068c5bd27bf1895d50d47379", func := "loop.example/g00889/laws.FnExactWarmerThan", spec := "fnExactWarmerThan", apart := false, narrowed := true }
def FnExactWarmerThanUptoSaid : Prop := fnExactWarmerThanUptoRow.holds Try.pinned (OpenSpec.upto fnExactWarmerThanSpec)

/-- 'laws.FnExactBeaufortOf', WHERE WHAT IT READS IS OF BULK AT MOST 1048576: true; the input reads as it did. -/
def fnExactBeaufortOfUptoRow : OpenClaim := { program := "ytfdlgfpcfbklmaa", sum := "205e11730bc3178a98db2c757d31176a1292ddaf068c5bd27bf1895d50d47379", func := "loop.example/g00889/laws.FnExactBeaufortOf", spec := "fnExactBeaufortOf", apart := false, narrowed := true }
def FnExactBeaufortOfUptoSaid : Prop := fnExactBeaufortOfUptoRow.holds Try.pinned (OpenSpec.upto fnExactBeaufortOfSpec)

/-- 'laws.FnExactIsValidField', WHERE WHAT IT READS IS OF BULK AT MOST 1048576: true; the input reads as it did. -/
def fnExactIsValidFieldUptoRow : OpenClaim := { program := "ytfdlgfpcfbklmaa", sum := "205e11730bc3178a98db2c757d31176a1292ddaf068c5bd27bf1895d50d47379", func := "loop.example/g00889/laws.FnExactIsValidField", spec := "fnExactIsValidField", unfollowed := true, recurses := true, apart := false, narrowed := true }
def FnExactIsValidFieldUptoSaid : Prop := fnExactIsValidFieldUptoRow.holds Try.pinned (OpenSpec.upto fnExactIsValidFieldSpec)

/-- 'laws.FnExactCellAt', WHERE WHAT IT READS IS OF BULK AT MOST 1048576: true; the input reads as it did. -/
def fnExactCellAtUptoRow : OpenClaim := { program := "ytfdlgfpcfbklmaa", sum := "205e11730bc3178a98db2c757d31176a1292ddaf068c5bd27bf1895d50d47379", func := "loop.example/g00889/laws.FnExactCellAt", spec := "fnExactCellAt", unfollowed := true, recurses := true, apart := false, narrowed := true }
def FnExactCellAtUptoSaid : Prop := fnExactCellAtUptoRow.holds Try.pinned (OpenSpec.upto fnExactCellAtSpec)

/-- 'laws.FnExactConvertTenths', WHERE WHAT IT READS IS OF BULK AT MOST 1048576: true; the input reads as it did. -/
def fnExactConvertTenthsUptoRow : OpenClaim := { program := "ytfdlgfpcfbklmaa", sum := "205e11730bc3178a98db2c757d31176a1292ddaf068c5bd27bf1895d50d47379", func := "loop.example/g00889/laws.FnExactConvertTenths", spec := "fnExactConvertTenths", apart := false, narrowed := true }
def FnExactConvertTenthsUptoSaid : Prop := fnExactConvertTenthsUptoRow.holds Try.pinned (OpenSpec.upto fnExactConvertTenthsSpec)

end Rows
end Go.Proofs.Ytfdlgfpcfbklmaa
