/-
  No cell of these rows narrows 'for every input' (looked for: loops, veiled, ifaces, maps, wideKeys, modest, calm, conditions, laid).
  DERIVED. THE GIVEN ROWS OF THIS SEAT. 9 by the template 'for every input the law returns true; each argument reads behind the call as it read before'; 0 by the template 'total and deterministic' (their statements: YtmbjhcdmnjhnoaaTotals.lean).
  GIVEN WITH THE SEED: the statements are not yours to turn. If you find one false, say at which input.
  Laid BY PROGRAM, IN A SANDBOX (cutbox-rows.mjs): the forced cells as the released guide's own fill.sh prints them over the translation 830723808bf17e4d… (all of the seat's roots in one cut). By AI agents, Wed Nov 11 2026. No macro, syntax, notation, axiom, sorry.
-/
import Derived.Test.YtmbjhcdmnjhnoaaChecked
import GoSem.Claim
import GoSem.ClaimJoined
import GoSem.ClaimMapViews
import Derived.JoinedTies
import Derived.KernelRfl
namespace Go.Proofs.Ytmbjhcdmnjhnoaa
/- THE CELL 'sum', in the pinned program and in every row, IS THE sha256 OF THE DUMP (.gsa) THAT YtmbjhcdmnjhnoaaProg.lean LOADS. Nothing in Lean hashes anything: it is a label: what it is worth is what the hold of that sum in a sandbox is worth. -/
noncomputable def Try.pinned : Pinned := { name := "ytmbjhcdmnjhnoaa", sum := "830723808bf17e4d427cc88bf4a39d553af9c1740edc3fa2a7e081d92651563f", checked := Try.checked }
namespace Rows
def none {H : Type} : Left H := { results := [], args := [] }

/-- 'laws.FnExactClipField': WHATEVER THE INPUT: true; the input reads as it did. -/
def fnExactClipFieldSpec : ChangeSpec := { name := "fnExactClipField", fn := fun _ => fun
  | [d1, d2, d3] => { results := [.lit (.bool true)], args := [d1, d2, d3] }
  | _ => none }
def fnExactClipFieldRow : OpenClaim := { program := "ytmbjhcdmnjhnoaa", sum := "830723808bf17e4d427cc88bf4a39d553af9c1740edc3fa2a7e081d92651563f", func := "loop.example/g00889/laws.FnExactClipField", spec := "fnExactClipField", unfollowed := true, recurses := true, apart := false }
def FnExactClipFieldSaid : Prop := fnExactClipFieldRow.holds Try.pinned (OpenSpec.ofChange fnExactClipFieldSpec)

/-- ITS FALSE NEIGHBOUR: 'it returns false'. Refute it at one input. -/
def fnExactClipFieldWrong : ChangeSpec := { name := "fnExactClipField", fn := fun _ => fun
  | [d1, d2, d3] => { results := [.lit (.bool false)], args := [d1, d2, d3] }
  | _ => none }
def FnExactClipFieldWrongFalsely : Prop := fnExactClipFieldRow.holds Try.pinned (OpenSpec.ofChange fnExactClipFieldWrong)

/-- 'laws.FnExactFillFrom': WHATEVER THE INPUT: true; the input reads as it did. -/
def fnExactFillFromSpec : ChangeSpec := { name := "fnExactFillFrom", fn := fun _ => fun
  | [d1, d2] => { results := [.lit (.bool true)], args := [d1, d2] }
  | _ => none }
def fnExactFillFromRow : OpenClaim := { program := "ytmbjhcdmnjhnoaa", sum := "830723808bf17e4d427cc88bf4a39d553af9c1740edc3fa2a7e081d92651563f", func := "loop.example/g00889/laws.FnExactFillFrom", spec := "fnExactFillFrom", unfollowed := true, recurses := true, apart := false }
def FnExactFillFromSaid : Prop := fnExactFillFromRow.holds Try.pinned (OpenSpec.ofChange fnExactFillFromSpec)

/-- ITS FALSE NEIGHBOUR: 'it returns false'. Refute it at one input. -/
def fnExactFillFromWrong : ChangeSpec := { name := "fnExactFillFrom", fn := fun _ => fun
  | [d1, d2] => { results := [.lit (.bool false)], args := [d1, d2] }
  | _ => none }
def FnExactFillFromWrongFalsely : Prop := fnExactFillFromRow.holds Try.pinned (OpenSpec.ofChange fnExactFillFromWrong)

/-- 'laws.FnExactMaskField': WHATEVER THE INPUT: true; the input reads as it did. -/
def fnExactMaskFieldSpec : ChangeSpec := { name := "fnExactMaskField", fn := fun _ => fun
  | [d1, d2] => { results := [.lit (.bool true)], args := [d1, d2] }
  | _ => none }
def fnExactMaskFieldRow : OpenClaim := { program := "ytmbjhcdmnjhnoaa", sum := "830723808bf17e4d427cc88bf4a39d553af9c1740edc3fa2a7e081d92651563f", func := "loop.example/g00889/laws.FnExactMaskField", spec := "fnExactMaskField", unfollowed := true, recurses := true, apart := false }
def FnExactMaskFieldSaid : Prop := fnExactMaskFieldRow.holds Try.pinned (OpenSpec.ofChange fnExactMaskFieldSpec)

/-- ITS FALSE NEIGHBOUR: 'it returns false'. Refute it at one input. -/
def fnExactMaskFieldWrong : ChangeSpec := { name := "fnExactMaskField", fn := fun _ => fun
  | [d1, d2] => { results := [.lit (.bool false)], args := [d1, d2] }
  | _ => none }
def FnExactMaskFieldWrongFalsely : Prop := fnExactMaskFieldRow.holds Try.pinned (OpenSpec.ofChange fnExactMaskFieldWrong)

/-- 'laws.FnExactSubField': WHATEVER THE INPUT: true; the input reads as it did. -/
def fnExactSubFieldSpec : ChangeSpec := { name := "fnExactSubField", fn := fun _ => fun
  | [d1, d2, d3, d4, d5] => { results := [.lit (.bool true)], args := [d1, d2, d3, d4, d5] }
  | _ => none }
def fnExactSubFieldRow : OpenClaim := { program := "ytmbjhcdmnjhnoaa", sum := "830723808bf17e4d427cc88bf4a39d553af9c1740edc3fa2a7e081d92651563f", func := "loop.example/g00889/laws.FnExactSubField", spec := "fnExactSubField", unfollowed := true, recurses := true, apart := false }
def FnExactSubFieldSaid : Prop := fnExactSubFieldRow.holds Try.pinned (OpenSpec.ofChange fnExactSubFieldSpec)

/-- ITS FALSE NEIGHBOUR: 'it returns false'. Refute it at one input. -/
def fnExactSubFieldWrong : ChangeSpec := { name := "fnExactSubField", fn := fun _ => fun
  | [d1, d2, d3, d4, d5] => { results := [.lit (.bool false)], args := [d1, d2, d3, d4, d5] }
  | _ => none }
def FnExactSubFieldWrongFalsely : Prop := fnExactSubFieldRow.holds Try.pinned (OpenSpec.ofChange fnExactSubFieldWrong)

/-- 'laws.FnExactScaleField': WHATEVER THE INPUT: true; the input reads as it did. -/
def fnExactScaleFieldSpec : ChangeSpec := { name := "fnExactScaleField", fn := fun _ => fun
  | [d1, d2, d3] => { results := [.lit (.bool true)], args := [d1, d2, d3] }
  | _ => none }
def fnExactScaleFieldRow : OpenClaim := { program := "ytmbjhcdmnjhnoaa", sum := "830723808bf17e4d427cc88bf4a39d553af9c1740edc3fa2a7e081d92651563f", func := "loop.example/g00889/laws.FnExactScaleField", spec := "fnExactScaleField", unfollowed := true, recurses := true, apart := false }
def FnExactScaleFieldSaid : Prop := fnExactScaleFieldRow.holds Try.pinned (OpenSpec.ofChange fnExactScaleFieldSpec)

/-- ITS FALSE NEIGHBOUR: 'it returns false'. Refute it at one input. -/
def fnExactScaleFieldWrong : ChangeSpec := { name := "fnExactScaleField", fn := fun _ => fun
  | [d1, d2, d3] => { results := [.lit (.bool false)], args := [d1, d2, d3] }
  | _ => none }
def FnExactScaleFieldWrongFalsely : Prop := fnExactScaleFieldRow.holds Try.pinned (OpenSpec.ofChange fnExactScaleFieldWrong)

/-- 'laws.FnExactPeakCells': WHATEVER THE INPUT: true; the input reads as it did. -/
def fnExactPeakCellsSpec : ChangeSpec := { name := "fnExactPeakCells", fn := fun _ => fun
  | [d1, d2] => { results := [.lit (.bool true)], args := [d1, d2] }
  | _ => none }
def fnExactPeakCellsRow : OpenClaim := { program := "ytmbjhcdmnjhnoaa", sum := "830723808bf17e4d427cc88bf4a39d553af9c1740edc3fa2a7e081d92651563f", func := "loop.example/g00889/laws.FnExactPeakCells", spec := "fnExactPeakCells", unfollowed := true, recurses := true, apart := false }
def FnExactPeakCellsSaid : Prop := fnExactPeakCellsRow.holds Try.pinned (OpenSpec.ofChange fnExactPeakCellsSpec)

/-- ITS FALSE NEIGHBOUR: 'it returns false'. Refute it at one input. -/
def fnExactPeakCellsWrong : ChangeSpec := { name := "fnExactPeakCells", fn := fun _ => fun
  | [d1, d2] => { results := [.lit (.bool false)], args := [d1, d2] }
  | _ => none }
def FnExactPeakCellsWrongFalsely : Prop := fnExactPeakCellsRow.holds Try.pinned (OpenSpec.ofChange fnExactPeakCellsWrong)

/-- 'laws.FnExactCombine': WHATEVER THE INPUT: true; the input reads as it did. -/
def fnExactCombineSpec : ChangeSpec := { name := "fnExactCombine", fn := fun _ => fun
  | [d1, d2, d3] => { results := [.lit (.bool true)], args := [d1, d2, d3] }
  | _ => none }
def fnExactCombineRow : OpenClaim := { program := "ytmbjhcdmnjhnoaa", sum := "830723808bf17e4d427cc88bf4a39d553af9c1740edc3fa2a7e081d92651563f", func := "loop.example/g00889/laws.FnExactCombine", spec := "fnExactCombine", unfollowed := true, recurses := true, apart := false }
def FnExactCombineSaid : Prop := fnExactCombineRow.holds Try.pinned (OpenSpec.ofChange fnExactCombineSpec)

/-- ITS FALSE NEIGHBOUR: 'it returns false'. Refute it at one input. -/
def fnExactCombineWrong : ChangeSpec := { name := "fnExactCombine", fn := fun _ => fun
  | [d1, d2, d3] => { results := [.lit (.bool false)], args := [d1, d2, d3] }
  | _ => none }
def FnExactCombineWrongFalsely : Prop := fnExactCombineRow.holds Try.pinned (OpenSpec.ofChange fnExactCombineWrong)

/-- 'laws.FnConversions': WHATEVER THE INPUT: true; the input reads as it did. -/
def fnConversionsSpec : ChangeSpec := { name := "fnConversions", fn := fun _ => fun
  | [d] => { results := [.lit (.bool true)], args := [d] }
  | _ => none }
def fnConversionsRow : OpenClaim := { program := "ytmbjhcdmnjhnoaa", sum := "830723808bf17e4d427cc88bf4a39d553af9c1740edc3fa2a7e081d92651563f", func := "loop.example/g00889/laws.FnConversions", spec := "fnConversions", apart := false }
def FnConversionsSaid : Prop := fnConversionsRow.holds Try.pinned (OpenSpec.ofChange fnConversionsSpec)

/-- ITS FALSE NEIGHBOUR: 'it returns false'. Refute it at one input. -/
def fnConversionsWrong : ChangeSpec := { name := "fnConversions", fn := fun _ => fun
  | [d] => { results := [.lit (.bool false)], args := [d] }
  | _ => none }
def FnConversionsWrongFalsely : Prop := fnConversionsRow.holds Try.pinned (OpenSpec.ofChange fnConversionsWrong)

/-- 'laws.FnExactJoinStrings': WHATEVER THE INPUT: true; the input reads as it did. -/
def fnExactJoinStringsSpec : ChangeSpec := { name := "fnExactJoinStrings", fn := fun _ => fun
  | [d1, d2] => { results := [.lit (.bool true)], args := [d1, d2] }
  | _ => none }
def fnExactJoinStringsRow : OpenClaim := { program := "ytmbjhcdmnjhnoaa", sum := "830723808bf17e4d427cc88bf4a39d553af9c1740edc3fa2a7e081d92651563f", func := "loop.example/g00889/laws.FnExactJoinStrings", spec := "fnExactJoinStrings", inPlace := ["internal/bytealg.IndexByteString", "internal/bytealg.IndexString", "internal/abi.NoEscape", "internal/bytealg.MakeNoZero"], named := ["internal/bytealg.MaxLen"], apart := false }
def FnExactJoinStringsSaid : Prop := fnExactJoinStringsRow.holds Try.pinned (OpenSpec.ofChange fnExactJoinStringsSpec)

/-- ITS FALSE NEIGHBOUR: 'it returns false'. Refute it at one input. -/
def fnExactJoinStringsWrong : ChangeSpec := { name := "fnExactJoinStrings", fn := fun _ => fun
  | [d1, d2] => { results := [.lit (.bool false)], args := [d1, d2] }
  | _ => none }
def FnExactJoinStringsWrongFalsely : Prop := fnExactJoinStringsRow.holds Try.pinned (OpenSpec.ofChange fnExactJoinStringsWrong)

/- THE SECOND FORM. 'bulk': how many values and letters a reading holds, each counted each time it is reached (what is shared counts as often as it is met; a slice's spare places count too). A statement '..UptoSaid' is the law's where the arguments, and the package variables that the reading takes, are together of bulk at most 1048576: NARROWER than '..Said'. Prove '..Said' where nothing that the law and all that it calls make is longer than what came in: it says more and counts as full. Else prove '..UptoSaid'. A law counts once. -/
mutual
def uptoBulk {H : Type} : DataW H → Nat
  | .lit (.string bytes) => bytes.length + 1
  | .lit _ => 1
  | .nil => 1
  | .ptr d => uptoBulk d + 1
  | .slice elems spare => uptoBulkAll elems + uptoBulkAll spare + 1
  | .agg parts => uptoBulkAll parts + 1
  | .iface _ d => uptoBulk d + 1
  | .map entries => uptoBulkEntries entries + 1
  | .held _ => 1
def uptoBulkAll {H : Type} : List (DataW H) → Nat
  | [] => 0
  | d :: r => uptoBulk d + uptoBulkAll r
def uptoBulkEntries {H : Type} : List (Lit × DataW H) → Nat
  | [] => 0
  | x :: r => uptoBulkEntry x + uptoBulkEntries r
def uptoBulkEntry {H : Type} : Lit × DataW H → Nat
  | (.string bytes, d) => bytes.length + uptoBulk d + 1
  | (_, d) => uptoBulk d + 1
 end
def uptoSmall : (H : Type) → List (DataW H) → Bool := fun _ ds => decide (uptoBulkAll ds ≤ 1048576)
def OpenSpec.upto (s : _root_.Go.ChangeSpec) : _root_.Go.OpenSpec := { _root_.Go.OpenSpec.ofChange s with cond := some uptoSmall }

/-- 'laws.FnExactClipField', WHERE WHAT IT READS IS OF BULK AT MOST 1048576: true; the input reads as it did. -/
def fnExactClipFieldUptoRow : OpenClaim := { program := "ytmbjhcdmnjhnoaa", sum := "830723808bf17e4d427cc88bf4a39d553af9c1740edc3fa2a7e081d92651563f", func := "loop.example/g00889/laws.FnExactClipField", spec := "fnExactClipField", unfollowed := true, recurses := true, apart := false, narrowed := true }
def FnExactClipFieldUptoSaid : Prop := fnExactClipFieldUptoRow.holds Try.pinned (OpenSpec.upto fnExactClipFieldSpec)

/-- 'laws.FnExactFillFrom', WHERE WHAT IT READS IS OF BULK AT MOST 1048576: true; the input reads as it did. -/
def fnExactFillFromUptoRow : OpenClaim := { program := "ytmbjhcdmnjhnoaa", sum := "830723808bf17e4d427cc88bf4a39d553af9c1740edc3fa2a7e081d92651563f", func := "loop.example/g00889/laws.FnExactFillFrom", spec := "fnExactFillFrom", unfollowed := true, recurses := true, apart := false, narrowed := true }
def FnExactFillFromUptoSaid : Prop := fnExactFillFromUptoRow.holds Try.pinned (OpenSpec.upto fnExactFillFromSpec)

/-- 'laws.FnExactMaskField', WHERE WHAT IT READS IS OF BULK AT MOST 1048576: true; the input reads as it did. -/
def fnExactMaskFieldUptoRow : OpenClaim := { program := "ytmbjhcdmnjhnoaa", sum := "830723808bf17e4d427cc88bf4a39d553af9c1740edc3fa2a7e081d92651563f", func := "loop.example/g00889/laws.FnExactMaskField", spec := "fnExactMaskField", unfollowed := true, recurses := true, apart := false, narrowed := true }
def FnExactMaskFieldUptoSaid : Prop := fnExactMaskFieldUptoRow.holds Try.pinned (OpenSpec.upto fnExactMaskFieldSpec)

/-- 'laws.FnExactSubField', WHERE WHAT IT READS IS OF BULK AT MOST 1048576: true; the input reads as it did. -/
def fnExactSubFieldUptoRow : OpenClaim := { program := "ytmbjhcdmnjhnoaa", sum := "830723808bf17e4d427cc88bf4a39d553af9c1740edc3fa2a7e081d92651563f", func := "loop.example/g00889/laws.FnExactSubField", spec := "fnExactSubField", unfollowed := true, recurses := true, apart := false, narrowed := true }
def FnExactSubFieldUptoSaid : Prop := fnExactSubFieldUptoRow.holds Try.pinned (OpenSpec.upto fnExactSubFieldSpec)

/-- 'laws.FnExactScaleField', WHERE WHAT IT READS IS OF BULK AT MOST 1048576: true; the input reads as it did. -/
def fnExactScaleFieldUptoRow : OpenClaim := { program := "ytmbjhcdmnjhnoaa", sum := "830723808bf17e4d427cc88bf4a39d553af9c1740edc3fa2a7e081d92651563f", func := "loop.example/g00889/laws.FnExactScaleField", spec := "fnExactScaleField", unfollowed := true, recurses := true, apart := false, narrowed := true }
def FnExactScaleFieldUptoSaid : Prop := fnExactScaleFieldUptoRow.holds Try.pinned (OpenSpec.upto fnExactScaleFieldSpec)

/-- 'laws.FnExactPeakCells', WHERE WHAT IT READS IS OF BULK AT MOST 1048576: true; the input reads as it did. -/
def fnExactPeakCellsUptoRow : OpenClaim := { program := "ytmbjhcdmnjhnoaa", sum := "830723808bf17e4d427cc88bf4a39d553af9c1740edc3fa2a7e081d92651563f", func := "loop.example/g00889/laws.FnExactPeakCells", spec := "fnExactPeakCells", unfollowed := true, recurses := true, apart := false, narrowed := true }
def FnExactPeakCellsUptoSaid : Prop := fnExactPeakCellsUptoRow.holds Try.pinned (OpenSpec.upto fnExactPeakCellsSpec)

/-- 'laws.FnExactCombine', WHERE WHAT IT READS IS OF BULK AT MOST 1048576: true; the input reads as it did. -/
def fnExactCombineUptoRow : OpenClaim := { program := "ytmbjhcdmnjhnoaa", sum := "830723808bf17e4d427cc88bf4a39d553af9c1740edc3fa2a7e081d92651563f", func := "loop.example/g00889/laws.FnExactCombine", spec := "fnExactCombine", unfollowed := true, recurses := true, apart := false, narrowed := true }
def FnExactCombineUptoSaid : Prop := fnExactCombineUptoRow.holds Try.pinned (OpenSpec.upto fnExactCombineSpec)

/-- 'laws.FnConversions', WHERE WHAT IT READS IS OF BULK AT MOST 1048576: true; the input reads as it did. -/
def fnConversionsUptoRow : OpenClaim := { program := "ytmbjhcdmnjhnoaa", sum := "830723808bf17e4d427cc88bf4a39d553af9c1740edc3fa2a7e081d92651563f", func := "loop.example/g00889/laws.FnConversions", spec := "fnConversions", apart := false, narrowed := true }
def FnConversionsUptoSaid : Prop := fnConversionsUptoRow.holds Try.pinned (OpenSpec.upto fnConversionsSpec)

/-- 'laws.FnExactJoinStrings', WHERE WHAT IT READS IS OF BULK AT MOST 1048576: true; the input reads as it did. -/
def fnExactJoinStringsUptoRow : OpenClaim := { program := "ytmbjhcdmnjhnoaa", sum := "830723808bf17e4d427cc88bf4a39d553af9c1740edc3fa2a7e081d92651563f", func := "loop.example/g00889/laws.FnExactJoinStrings", spec := "fnExactJoinStrings", inPlace := ["internal/bytealg.IndexByteString", "internal/bytealg.IndexString", "internal/abi.NoEscape", "internal/bytealg.MakeNoZero"], named := ["internal/bytealg.MaxLen"], apart := false, narrowed := true }
def FnExactJoinStringsUptoSaid : Prop := fnExactJoinStringsUptoRow.holds Try.pinned (OpenSpec.upto fnExactJoinStringsSpec)

end Rows
end Go.Proofs.Ytmbjhcdmnjhnoaa
