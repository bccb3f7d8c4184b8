/- A deterministic reading of Go code over plain data: what is known of the program's own tables. Here: the powers of ten, that the variables of strconv's errors hold errors, and that a number stands where one must. No conditions. -/
import Derived.WalkKit
import Derived.Lib.LaidTab
import Derived.Lib.LaidU8
import Derived.Shelf.Strconv.Itoa3
import Derived.KernelRfl
import Derived.Test.YtbjmfjfnilmhhaaGreatDoorProg
namespace Go.Proofs.YtbjmfjfnilmhhaaGreatDoor.Eng
open Go Go.RowKit
theorem tabNo : Tryz.prog.globalNamed "internal/strconv.uint64pow10" = some 0 := by kernel_rfl
/-- The powers of ten. -/
def Jt (w : World) : Prop := Lib.TabIs Tryz.prog w "internal/strconv.uint64pow10" .u64 Lib.pow10Tab
theorem Jt_cong {w w' : World} (h : w'.heap[0]? = w.heap[0]?) (hj : Jt w) : Jt w' := by
  unfold Jt Lib.TabIs World.var? at hj ⊢
  rw [tabNo] at hj ⊢
  simp only [Option.bind_some] at hj ⊢
  rw [h]
  exact hj
theorem Jt_lt {w : World} (hj : Jt w) : 0 < w.heap.size := by
  unfold Jt Lib.TabIs World.var? at hj
  rw [tabNo] at hj
  simp only [Option.bind_some] at hj
  by_cases h : 0 < w.heap.size
  · exact h
  · rw [Array.getElem?_eq_none (by omega)] at hj
    cases hj
/-- A variable holds an error, or nil. -/
def ErrAt (w : World) (g : Nat) : Prop := ∃ ev, w.cell? ⟨g, 0, none⟩ = some ev ∧ (ev = .nilIface ∨ ∃ te pe, ev = .iface te pe)
theorem ErrAt_cong {w w' : World} {g : Nat} (h : w'.heap[g]? = w.heap[g]?) (hj : ErrAt w g) : ErrAt w' g := by
  obtain ⟨ev, h1, h2⟩ := hj
  refine ⟨ev, ?_, h2⟩
  rw [← h1]
  unfold World.cell?
  simp only [h]
theorem ErrAt_lt {w : World} {g : Nat} (hj : ErrAt w g) : g < w.heap.size := by
  obtain ⟨ev, h1, h2⟩ := hj
  exact World.block_lt_of_cell? w _ h1
/-- A variable holds some number. -/
def IntAt (w : World) (g : Nat) : Prop := ∃ m, w.cell? ⟨g, 0, none⟩ = some (.int .i64 m)
theorem IntAt_cong {w w' : World} {g : Nat} (h : w'.heap[g]? = w.heap[g]?) (hj : IntAt w g) : IntAt w' g := by
  obtain ⟨m, h1⟩ := hj
  refine ⟨m, ?_⟩
  rw [← h1]
  unfold World.cell?
  simp only [h]
theorem IntAt_lt {w : World} {g : Nat} (hj : IntAt w g) : g < w.heap.size := by
  obtain ⟨m, h1⟩ := hj
  exact World.block_lt_of_cell? w _ h1
/-- What is known of package-level variables that are only read, and their blocks. -/
def Jw (w : World) : Prop := Jt w ∧ ErrAt w 3 ∧ ErrAt w 4
theorem jt_of {w : World} (h : Jw w) : Jt w := h.1
theorem e1_of {w : World} (h : Jw w) : ErrAt w 3 := h.2.1
theorem e2_of {w : World} (h : Jw w) : ErrAt w 4 := h.2.2
def gs : List Nat := [0, 3, 4]
theorem Jw_cong {w w' : World} (h : ∀ g ∈ gs, w'.heap[g]? = w.heap[g]?) (hj : Jw w) : Jw w' := ⟨Jt_cong (h _ (by simp [gs])) hj.1, ErrAt_cong (h _ (by simp [gs])) hj.2.1, ErrAt_cong (h _ (by simp [gs])) hj.2.2⟩
theorem Jw_lt {w : World} (hj : Jw w) : ∀ g ∈ gs, g < w.heap.size := by
  intro g hg
  simp only [gs, List.mem_cons, List.not_mem_nil, or_false] at hg
  rcases hg with rfl | rfl | rfl
  · exact Jt_lt hj.1
  · exact ErrAt_lt hj.2.1
  · exact ErrAt_lt hj.2.2
end Go.Proofs.YtbjmfjfnilmhhaaGreatDoor.Eng
