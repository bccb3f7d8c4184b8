/-
  No cell of these rows narrows 'for every input' (looked for: loops, veiled, ifaces, maps, wideKeys, modest, calm, conditions, laid).
  DERIVED. THE GIVEN ROWS OF THIS SEAT. 7 by the template 'for every input the law returns true; each argument reads behind the call as it read before'; 0 by the template 'total and deterministic' (their statements: YtfgoljfggkkpnaaTotals.lean).
  GIVEN WITH THE SEED: the statements are not yours to turn. If you find one false, say at which input.
  Laid BY PROGRAM, IN A SANDBOX (cutbox-rows.mjs): the forced cells as the released guide's own fill.sh prints them over the translation 122111d5a8b60bee… (all of the seat's roots in one cut). By AI agents, Wed Nov 11 2026. No macro, syntax, notation, axiom, sorry.
-/
import Derived.Test.YtfgoljfggkkpnaaChecked
import GoSem.Claim
import GoSem.ClaimJoined
import GoSem.ClaimMapViews
import Derived.JoinedTies
import Derived.KernelRfl
namespace Go.Proofs.Ytfgoljfggkkpnaa
/- THE CELL 'sum', in the pinned program and in every row, IS THE sha256 OF THE DUMP (.gsa) THAT YtfgoljfggkkpnaaProg.lean LOADS. Nothing in Lean hashes anything: it is a label: what it is worth is what the hold of that sum in a sandbox is worth. -/
noncomputable def Try.pinned : Pinned := { name := "ytfgoljfggkkpnaa", sum := "122111d5a8b60bee532eac67925f39e840d0f20eb7c0a98ec3c70ea4bde64619", checked := Try.checked }
namespace Rows
def none {H : Type} : Left H := { results := [], args := [] }

/-- 'laws.FnExactMaximumFilter': WHATEVER THE INPUT: true; the input reads as it did. -/
def fnExactMaximumFilterSpec : ChangeSpec := { name := "fnExactMaximumFilter", fn := fun _ => fun
  | [d1, d2] => { results := [.lit (.bool true)], args := [d1, d2] }
  | _ => none }
def fnExactMaximumFilterRow : OpenClaim := { program := "ytfgoljfggkkpnaa", sum := "122111d5a8b60bee532eac67925f39e840d0f20eb7c0a98ec3c70ea4bde64619", func := "loop.example/g00889/laws.FnExactMaximumFilter", spec := "fnExactMaximumFilter", unfollowed := true, recurses := true, apart := false }
def FnExactMaximumFilterSaid : Prop := fnExactMaximumFilterRow.holds Try.pinned (OpenSpec.ofChange fnExactMaximumFilterSpec)

/-- ITS FALSE NEIGHBOUR: 'it returns false'. Refute it at one input. -/
def fnExactMaximumFilterWrong : ChangeSpec := { name := "fnExactMaximumFilter", fn := fun _ => fun
  | [d1, d2] => { results := [.lit (.bool false)], args := [d1, d2] }
  | _ => none }
def FnExactMaximumFilterWrongFalsely : Prop := fnExactMaximumFilterRow.holds Try.pinned (OpenSpec.ofChange fnExactMaximumFilterWrong)

/-- 'laws.FnExactMinimumFilter': WHATEVER THE INPUT: true; the input reads as it did. -/
def fnExactMinimumFilterSpec : ChangeSpec := { name := "fnExactMinimumFilter", fn := fun _ => fun
  | [d1, d2] => { results := [.lit (.bool true)], args := [d1, d2] }
  | _ => none }
def fnExactMinimumFilterRow : OpenClaim := { program := "ytfgoljfggkkpnaa", sum := "122111d5a8b60bee532eac67925f39e840d0f20eb7c0a98ec3c70ea4bde64619", func := "loop.example/g00889/laws.FnExactMinimumFilter", spec := "fnExactMinimumFilter", unfollowed := true, recurses := true, apart := false }
def FnExactMinimumFilterSaid : Prop := fnExactMinimumFilterRow.holds Try.pinned (OpenSpec.ofChange fnExactMinimumFilterSpec)

/-- ITS FALSE NEIGHBOUR: 'it returns false'. Refute it at one input. -/
def fnExactMinimumFilterWrong : ChangeSpec := { name := "fnExactMinimumFilter", fn := fun _ => fun
  | [d1, d2] => { results := [.lit (.bool false)], args := [d1, d2] }
  | _ => none }
def FnExactMinimumFilterWrongFalsely : Prop := fnExactMinimumFilterRow.holds Try.pinned (OpenSpec.ofChange fnExactMinimumFilterWrong)

/-- 'laws.FnExactMeanFilter': WHATEVER THE INPUT: true; the input reads as it did. -/
def fnExactMeanFilterSpec : ChangeSpec := { name := "fnExactMeanFilter", fn := fun _ => fun
  | [d1, d2] => { results := [.lit (.bool true)], args := [d1, d2] }
  | _ => none }
def fnExactMeanFilterRow : OpenClaim := { program := "ytfgoljfggkkpnaa", sum := "122111d5a8b60bee532eac67925f39e840d0f20eb7c0a98ec3c70ea4bde64619", func := "loop.example/g00889/laws.FnExactMeanFilter", spec := "fnExactMeanFilter", unfollowed := true, recurses := true, apart := false }
def FnExactMeanFilterSaid : Prop := fnExactMeanFilterRow.holds Try.pinned (OpenSpec.ofChange fnExactMeanFilterSpec)

/-- ITS FALSE NEIGHBOUR: 'it returns false'. Refute it at one input. -/
def fnExactMeanFilterWrong : ChangeSpec := { name := "fnExactMeanFilter", fn := fun _ => fun
  | [d1, d2] => { results := [.lit (.bool false)], args := [d1, d2] }
  | _ => none }
def FnExactMeanFilterWrongFalsely : Prop := fnExactMeanFilterRow.holds Try.pinned (OpenSpec.ofChange fnExactMeanFilterWrong)

/-- 'laws.FnExactSmoothChange': WHATEVER THE INPUT: true; the input reads as it did. -/
def fnExactSmoothChangeSpec : ChangeSpec := { name := "fnExactSmoothChange", fn := fun _ => fun
  | [d1, d2] => { results := [.lit (.bool true)], args := [d1, d2] }
  | _ => none }
def fnExactSmoothChangeRow : OpenClaim := { program := "ytfgoljfggkkpnaa", sum := "122111d5a8b60bee532eac67925f39e840d0f20eb7c0a98ec3c70ea4bde64619", func := "loop.example/g00889/laws.FnExactSmoothChange", spec := "fnExactSmoothChange", unfollowed := true, recurses := true, apart := false }
def FnExactSmoothChangeSaid : Prop := fnExactSmoothChangeRow.holds Try.pinned (OpenSpec.ofChange fnExactSmoothChangeSpec)

/-- ITS FALSE NEIGHBOUR: 'it returns false'. Refute it at one input. -/
def fnExactSmoothChangeWrong : ChangeSpec := { name := "fnExactSmoothChange", fn := fun _ => fun
  | [d1, d2] => { results := [.lit (.bool false)], args := [d1, d2] }
  | _ => none }
def FnExactSmoothChangeWrongFalsely : Prop := fnExactSmoothChangeRow.holds Try.pinned (OpenSpec.ofChange fnExactSmoothChangeWrong)

/-- 'laws.FnExactCoverageFilter': WHATEVER THE INPUT: true; the input reads as it did. -/
def fnExactCoverageFilterSpec : ChangeSpec := { name := "fnExactCoverageFilter", fn := fun _ => fun
  | [d1, d2, d3] => { results := [.lit (.bool true)], args := [d1, d2, d3] }
  | _ => none }
def fnExactCoverageFilterRow : OpenClaim := { program := "ytfgoljfggkkpnaa", sum := "122111d5a8b60bee532eac67925f39e840d0f20eb7c0a98ec3c70ea4bde64619", func := "loop.example/g00889/laws.FnExactCoverageFilter", spec := "fnExactCoverageFilter", unfollowed := true, recurses := true, apart := false }
def FnExactCoverageFilterSaid : Prop := fnExactCoverageFilterRow.holds Try.pinned (OpenSpec.ofChange fnExactCoverageFilterSpec)

/-- ITS FALSE NEIGHBOUR: 'it returns false'. Refute it at one input. -/
def fnExactCoverageFilterWrong : ChangeSpec := { name := "fnExactCoverageFilter", fn := fun _ => fun
  | [d1, d2, d3] => { results := [.lit (.bool false)], args := [d1, d2, d3] }
  | _ => none }
def FnExactCoverageFilterWrongFalsely : Prop := fnExactCoverageFilterRow.holds Try.pinned (OpenSpec.ofChange fnExactCoverageFilterWrong)

/-- 'laws.FnTotals': WHATEVER THE INPUT: true; the input reads as it did. -/
def fnTotalsSpec : ChangeSpec := { name := "fnTotals", fn := fun _ => fun
  | [d] => { results := [.lit (.bool true)], args := [d] }
  | _ => none }
def fnTotalsRow : OpenClaim := { program := "ytfgoljfggkkpnaa", sum := "122111d5a8b60bee532eac67925f39e840d0f20eb7c0a98ec3c70ea4bde64619", func := "loop.example/g00889/laws.FnTotals", spec := "fnTotals", unfollowed := true, recurses := true, apart := false }
def FnTotalsSaid : Prop := fnTotalsRow.holds Try.pinned (OpenSpec.ofChange fnTotalsSpec)

/-- ITS FALSE NEIGHBOUR: 'it returns false'. Refute it at one input. -/
def fnTotalsWrong : ChangeSpec := { name := "fnTotals", fn := fun _ => fun
  | [d] => { results := [.lit (.bool false)], args := [d] }
  | _ => none }
def FnTotalsWrongFalsely : Prop := fnTotalsRow.holds Try.pinned (OpenSpec.ofChange fnTotalsWrong)

/-- 'laws.FnAlgebra': WHATEVER THE INPUT: true; the input reads as it did. -/
def fnAlgebraSpec : ChangeSpec := { name := "fnAlgebra", fn := fun _ => fun
  | [d] => { results := [.lit (.bool true)], args := [d] }
  | _ => none }
def fnAlgebraRow : OpenClaim := { program := "ytfgoljfggkkpnaa", sum := "122111d5a8b60bee532eac67925f39e840d0f20eb7c0a98ec3c70ea4bde64619", func := "loop.example/g00889/laws.FnAlgebra", spec := "fnAlgebra", unfollowed := true, recurses := true, apart := false }
def FnAlgebraSaid : Prop := fnAlgebraRow.holds Try.pinned (OpenSpec.ofChange fnAlgebraSpec)

/-- ITS FALSE NEIGHBOUR: 'it returns false'. Refute it at one input. -/
def fnAlgebraWrong : ChangeSpec := { name := "fnAlgebra", fn := fun _ => fun
  | [d] => { results := [.lit (.bool false)], args := [d] }
  | _ => none }
def FnAlgebraWrongFalsely : Prop := fnAlgebraRow.holds Try.pinned (OpenSpec.ofChange fnAlgebraWrong)

/- THE SECOND FORM. 'bulk': how many values and letters a reading holds, each counted each time it is reached (what is shared counts as often as it is met; a slice's spare places count too). A statement '..UptoSaid' is the law's where the arguments, and the package variables that the reading takes, are together of bulk at most 1048576: NARROWER than '..Said'. Prove '..Said' where nothing that the law and all that it calls make is longer than what came in: it says more and counts as full. Else prove '..UptoSaid'. A law counts once. -/
mutual
def uptoBulk {H : Type} : DataW H → Nat
  | .lit (.string bytes) => bytes.length + 1
  | .lit _ => 1
  | .nil => 1
  | .ptr d => uptoBulk d + 1
  | .slice elems spare => uptoBulkAll elems + uptoBulkAll spare + 1
  | .agg parts => uptoBulkAll parts + 1
  | .iface _ d => uptoBulk d + 1
  | .map entries => uptoBulkEntries entries + 1
  | .held _ => 1
def uptoBulkAll {H : Type} : List (DataW H) → Nat
  | [] => 0
  | d :: r => uptoBulk d + uptoBulkAll r
def uptoBulkEntries {H : Type} : List (Lit × DataW H) → Nat
  | [] => 0
  | x :: r => uptoBulkEntry x + uptoBulkEntries r
def uptoBulkEntry {H : Type} : Lit × DataW H → Nat
  | (.string bytes, d) => bytes.length + uptoBulk d + 1
  | (_, d) => uptoBulk d + 1
 end
def uptoSmall : (H : Type) → List (DataW H) → Bool := fun _ ds => decide (uptoBulkAll ds ≤ 1048576)
def OpenSpec.upto (s : _root_.Go.ChangeSpec) : _root_.Go.OpenSpec := { _root_.Go.OpenSpec.ofChange s with cond := some uptoSmall }

/-- 'laws.FnExactMaximumFilter', WHERE WHAT IT READS IS OF BULK AT MOST 1048576: true; the input reads as it did. -/
def fnExactMaximumFilterUptoRow : OpenClaim := { program := "ytfgoljfggkkpnaa", sum := "122111d5a8b60bee532eac67925f39e840d0f20eb7c0a98ec3c70ea4bde64619", func := "loop.example/g00889/laws.FnExactMaximumFilter", spec := "fnExactMaximumFilter", unfollowed := true, recurses := true, apart := false, narrowed := true }
def FnExactMaximumFilterUptoSaid : Prop := fnExactMaximumFilterUptoRow.holds Try.pinned (OpenSpec.upto fnExactMaximumFilterSpec)

/-- 'laws.FnExactMinimumFilter', WHERE WHAT IT READS IS OF BULK AT MOST 1048576: true; the input reads as it did. -/
def fnExactMinimumFilterUptoRow : OpenClaim := { program := "ytfgoljfggkkpnaa", sum := "122111d5a8b60bee532eac67925f39e840d0f20eb7c0a98ec3c70ea4bde64619", func := "loop.example/g00889/laws.FnExactMinimumFilter", spec := "fnExactMinimumFilter", unfollowed := true, recurses := true, apart := false, narrowed := true }
def FnExactMinimumFilterUptoSaid : Prop := fnExactMinimumFilterUptoRow.holds Try.pinned (OpenSpec.upto fnExactMinimumFilterSpec)

/-- 'laws.FnExactMeanFilter', WHERE WHAT IT READS IS OF BULK AT MOST 1048576: true; the input reads as it did. -/
def fnExactMeanFilterUptoRow : OpenClaim := { program := "ytfgoljfggkkpnaa", sum := "122111d5a8b60bee532eac67925f39e840d0f20eb7c0a98ec3c70ea4bde64619", func := "loop.example/g00889/laws.FnExactMeanFilter", spec := "fnExactMeanFilter", unfollowed := true, recurses := true, apart := false, narrowed := true }
def FnExactMeanFilterUptoSaid : Prop := fnExactMeanFilterUptoRow.holds Try.pinned (OpenSpec.upto fnExactMeanFilterSpec)

/-- 'laws.FnExactSmoothChange', WHERE WHAT IT READS IS OF BULK AT MOST 1048576: true; the input reads as it did. -/
def fnExactSmoothChangeUptoRow : OpenClaim := { program := "ytfgoljfggkkpnaa", sum := "122111d5a8b60bee532eac67925f39e840d0f20eb7c0a98ec3c70ea4bde64619", func := "loop.example/g00889/laws.FnExactSmoothChange", spec := "fnExactSmoothChange", unfollowed := true, recurses := true, apart := false, narrowed := true }
def FnExactSmoothChangeUptoSaid : Prop := fnExactSmoothChangeUptoRow.holds Try.pinned (OpenSpec.upto fnExactSmoothChangeSpec)

/-- 'laws.FnExactCoverageFilter', WHERE WHAT IT READS IS OF BULK AT MOST 1048576: true; the input reads as it did. -/
def fnExactCoverageFilterUptoRow : OpenClaim := { program := "ytfgoljfggkkpnaa", sum := "122111d5a8b60bee532eac67925f39e840d0f20eb7c0a98ec3c70ea4bde64619", func := "loop.example/g00889/laws.FnExactCoverageFilter", spec := "fnExactCoverageFilter", unfollowed := true, recurses := true, apart := false, narrowed := true }
def FnExactCoverageFilterUptoSaid : Prop := fnExactCoverageFilterUptoRow.holds Try.pinned (OpenSpec.upto fnExactCoverageFilterSpec)

/-- 'laws.FnTotals', WHERE WHAT IT READS IS OF BULK AT MOST 1048576: true; the input reads as it did. -/
def fnTotalsUptoRow : OpenClaim := { program := "ytfgoljfggkkpnaa", sum := "122111d5a8b60bee532eac67925f39e840d0f20eb7c0a98ec3c70ea4bde64619", func := "loop.example/g00889/laws.FnTotals", spec := "fnTotals", unfollowed := true, recurses := true, apart := false, narrowed := true }
def FnTotalsUptoSaid : Prop := fnTotalsUptoRow.holds Try.pinned (OpenSpec.upto fnTotalsSpec)

/-- 'laws.FnAlgebra', WHERE WHAT IT READS IS OF BULK AT MOST 1048576: true; the input reads as it did. -/
def fnAlgebraUptoRow : OpenClaim := { program := "ytfgoljfggkkpnaa", sum := "122111d5a8b60bee532eac67925f39e840d0f20eb7c0a98ec3c70ea4bde64619", func := "loop.example/g00889/laws.FnAlgebra", spec := "fnAlgebra", unfollowed := true, recurses := true, apart := false, narrowed := true }
def FnAlgebraUptoSaid : Prop := fnAlgebraUptoRow.holds Try.pinned (OpenSpec.upto fnAlgebraSpec)

end Rows
end Go.Proofs.Ytfgoljfggkkpnaa
