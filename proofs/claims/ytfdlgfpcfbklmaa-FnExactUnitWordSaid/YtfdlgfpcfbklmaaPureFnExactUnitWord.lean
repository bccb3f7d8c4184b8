/- UnitWord of the program and of the reference answer the same for every number: the law FnExactUnitWord answers true. No conditions. -/
import Derived.Test.YtfdlgfpcfbklmaaPFnExactUnitWordx1
namespace Go.Proofs.Ytfdlgfpcfbklmaa.Pure
open Go.RowKit Go.Proofs.Ytfdlgfpcfbklmaa.PFnExactUnitWord Go.Proofs.YtfdlgfpcfbklmaaW.PrintWords Go.Proofs.YtfdlgfpcfbklmaaW.PrintLast

theorem words_same (a : Int) : ∃ r, spec_UnitWord.f a = some r ∧ impl_UnitWord.f a = some r := by
  have hc : a = 1 ∨ a = 2 ∨ a = 3 ∨ a = 4 ∨ a = 5 ∨ a = 6 ∨ a = 7 ∨ a = 8 ∨ (a < 1 ∨ 8 < a) := by omega
  rcases hc with rfl | rfl | rfl | rfl | rfl | rfl | rfl | rfl | h
  · exact ⟨_, rfl, rfl⟩
  · exact ⟨_, rfl, rfl⟩
  · exact ⟨_, rfl, rfl⟩
  · exact ⟨_, rfl, rfl⟩
  · exact ⟨_, rfl, rfl⟩
  · exact ⟨_, rfl, rfl⟩
  · exact ⟨_, rfl, rfl⟩
  · exact ⟨_, rfl, rfl⟩
  · refine ⟨((⟨#[]⟩ : ByteArray), false), ?_, ?_⟩
    · unfold spec_UnitWord.f spec_l3Unit.f spec_l1In.f
      by_cases h1 : a ≥ 1
      · rw [if_pos h1, show decide (a ≤ 8) = false from decide_eq_false (by omega)]; rfl
      · rw [if_neg h1]; rfl
    · unfold impl_UnitWord.f impl_unitOf.f
      rw [if_neg (by omega), if_neg (by omega), if_neg (by omega), if_neg (by omega), if_neg (by omega), if_neg (by omega), if_neg (by omega), if_neg (by omega)]; rfl

theorem FnExactUnitWord : laws_FnExactUnitWord.Pure := by
  intro a _
  obtain ⟨r, hs, hi⟩ := words_same a
  unfold laws_FnExactUnitWord.f
  rw [hs, hi]
  simp

end Go.Proofs.Ytfdlgfpcfbklmaa.Pure
