/- A deterministic reading of Go code over plain data: what is known of the program's own tables. Here: the powers of ten, that the variables of strconv's errors hold errors, and that a number stands where one must. No conditions. -/
import Derived.WalkKit
import Derived.Lib.LaidTab
import Derived.Lib.LaidU8
import Derived.Shelf.Strconv.Itoa3
import Derived.KernelRfl
import Derived.Test.YtmleikmjjoneeaaDoorProg
namespace Go.Proofs.YtmleikmjjoneeaaDoor.Eng
open Go Go.RowKit
/-- A variable holds an error, or nil. -/
def ErrAt (w : World) (g : Nat) : Prop := ∃ ev, w.cell? ⟨g, 0, none⟩ = some ev ∧ (ev = .nilIface ∨ ∃ te pe, ev = .iface te pe)
theorem ErrAt_cong {w w' : World} {g : Nat} (h : w'.heap[g]? = w.heap[g]?) (hj : ErrAt w g) : ErrAt w' g := by
  obtain ⟨ev, h1, h2⟩ := hj
  refine ⟨ev, ?_, h2⟩
  rw [← h1]
  unfold World.cell?
  simp only [h]
theorem ErrAt_lt {w : World} {g : Nat} (hj : ErrAt w g) : g < w.heap.size := by
  obtain ⟨ev, h1, h2⟩ := hj
  exact World.block_lt_of_cell? w _ h1
/-- A variable holds some number. -/
def IntAt (w : World) (g : Nat) : Prop := ∃ m, w.cell? ⟨g, 0, none⟩ = some (.int .i64 m)
theorem IntAt_cong {w w' : World} {g : Nat} (h : w'.heap[g]? = w.heap[g]?) (hj : IntAt w g) : IntAt w' g := by
  obtain ⟨m, h1⟩ := hj
  refine ⟨m, ?_⟩
  rw [← h1]
  unfold World.cell?
  simp only [h]
theorem IntAt_lt {w : World} {g : Nat} (hj : IntAt w g) : g < w.heap.size := by
  obtain ⟨m, h1⟩ := hj
  exact World.block_lt_of_cell? w _ h1
/-- What is known of package-level variables that are only read, and their blocks. -/
def Jw (w : World) : Prop := IntAt w 0
theorem mx_of {w : World} (h : Jw w) : IntAt w 0 := h
def gs : List Nat := [0]
theorem Jw_cong {w w' : World} (h : ∀ g ∈ gs, w'.heap[g]? = w.heap[g]?) (hj : Jw w) : Jw w' := IntAt_cong (h _ (by simp [gs])) hj
theorem Jw_lt {w : World} (hj : Jw w) : ∀ g ∈ gs, g < w.heap.size := by
  intro g hg
  simp only [gs, List.mem_cons, List.not_mem_nil, or_false] at hg
  subst hg
  exact IntAt_lt hj
end Go.Proofs.YtmleikmjjoneeaaDoor.Eng
