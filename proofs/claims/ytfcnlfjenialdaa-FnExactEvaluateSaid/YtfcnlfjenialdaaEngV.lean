/- A deterministic reading of Go code over plain data: what is known of the program's own tables. Here: nothing. No conditions. -/
import Derived.WalkKit
namespace Go.Proofs.Ytfcnlfjenialdaa.Eng
open Go Go.RowKit
/-- What is known of package-level variables that are only read, and their blocks. -/
def Jw (_ : World) : Prop := True
def gs : List Nat := []
theorem Jw_cong {w w' : World} (_ : ∀ g ∈ gs, w'.heap[g]? = w.heap[g]?) (_ : Jw w) : Jw w' := trivial
theorem gl0 (w : World) : (∀ g ∈ gs, g < w.heap.size) ∧ Jw w := ⟨fun g hg => (by cases hg), trivial⟩
end Go.Proofs.Ytfcnlfjenialdaa.Eng
