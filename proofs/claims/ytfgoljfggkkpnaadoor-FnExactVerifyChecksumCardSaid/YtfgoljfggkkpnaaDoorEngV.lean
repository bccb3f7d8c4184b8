/- A deterministic reading of Go code over plain data: what is known of the program's own tables. Here: the powers of ten. No conditions. -/
import Derived.WalkKit
import Derived.Lib.LaidTab
import Derived.Lib.LaidU8
import Derived.Shelf.Strconv.Itoa3
import Derived.KernelRfl
import Derived.Test.YtfgoljfggkkpnaaDoorProg
namespace Go.Proofs.YtfgoljfggkkpnaaDoor.Eng
open Go Go.RowKit
theorem tabNo : Tryd.prog.globalNamed "internal/strconv.uint64pow10" = some 1 := by kernel_rfl
/-- What is known of package-level variables that are only read, and their blocks. -/
def Jw (w : World) : Prop := Lib.TabIs Tryd.prog w "internal/strconv.uint64pow10" .u64 Lib.pow10Tab
def gs : List Nat := [1]
theorem Jw_cong {w w' : World} (h : ∀ g ∈ gs, w'.heap[g]? = w.heap[g]?) (hj : Jw w) : Jw w' := by
  unfold Jw Lib.TabIs World.var? at hj ⊢
  rw [tabNo] at hj ⊢
  simp only [Option.bind_some] at hj ⊢
  rw [h 1 (by simp [gs])]
  exact hj
theorem Jw_lt {w : World} (hj : Jw w) : ∀ g ∈ gs, g < w.heap.size := by
  intro g hg
  simp only [gs, List.mem_singleton] at hg
  subst hg
  unfold Jw Lib.TabIs World.var? at hj
  rw [tabNo] at hj
  simp only [Option.bind_some] at hj
  by_cases h : 1 < w.heap.size
  · exact h
  · rw [Array.getElem?_eq_none (by omega)] at hj
    cases hj
end Go.Proofs.YtfgoljfggkkpnaaDoor.Eng
