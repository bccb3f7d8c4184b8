/- RoundTenths of the program and of the reference answer the same for all two numbers: the law FnExactRoundTenths answers true. No conditions. -/
import Derived.Test.YtfdlgfpcfbklmaaPFnExactRoundTenthsx1
namespace Go.Proofs.Ytfdlgfpcfbklmaa.Pure
open Go.RowKit Go.Proofs.Ytfdlgfpcfbklmaa.PFnExactRoundTenths Go.Proofs.YtfdlgfpcfbklmaaW.PrintWords Go.Proofs.YtfdlgfpcfbklmaaW.PrintLast

theorem round_ends (x s : Int) (h1 : 1 ≤ s) (h2 : s ≤ 1000) : ∃ y, spec_l3Round.f x s = some y := by
  have h : wrap64 (2 * s) = 2 * s := by unfold wrap64; omega
  unfold spec_l3Round.f
  rw [h]
  by_cases h0 : x < 0
  · rw [if_pos h0, if_neg (by omega)]; exact ⟨_, rfl⟩
  · rw [if_neg h0, if_neg (by omega)]; exact ⟨_, rfl⟩

theorem nearest_same (x s : Int) : impl_nearest.f x s = spec_l3Round.f x s := rfl
theorem tenths_same (x : Int) : impl_isTenths.f x = spec_l3Tenths.f x := rfl
theorem in_some (x a b : Int) : spec_l1In.f x a b = some (decide (a ≤ x ∧ x ≤ b)) := by
  unfold spec_l1In.f
  by_cases h : x ≥ a
  · rw [if_pos h]; simp [show a ≤ x from h]
  · rw [if_neg h]; simp [show ¬ a ≤ x from h]
theorem within_some (x a b : Int) : impl_within.f x a b = some (decide (a ≤ x ∧ x ≤ b)) := in_some x a b
theorem tenths_some (x : Int) : spec_l3Tenths.f x = some (decide (-99999 ≤ x ∧ x ≤ 99999)) := by unfold spec_l3Tenths.f; rw [in_some]; rfl

theorem both_same (x s : Int) : ∃ r, spec_RoundTenths.f 1 x s = some r ∧ impl_RoundTenths.f 1 x s = some r := by
  unfold spec_RoundTenths.f impl_RoundTenths.f
  rw [tenths_same, tenths_some, in_some, within_some]
  simp only [Option.bind_some]
  by_cases h : (decide (-99999 ≤ x ∧ x ≤ 99999)) = true
  · rw [if_pos h, if_pos h]
    simp only [spec_RoundTenths.j0, impl_RoundTenths.j0]
    by_cases h2 : 1 ≤ s ∧ s ≤ 1000
    · rw [decide_eq_true h2]
      obtain ⟨y, hy⟩ := round_ends x s h2.1 h2.2
      rw [nearest_same, hy]
      simp only [Option.bind_some, tenths_same, tenths_some]
      by_cases h3 : (decide (-99999 ≤ wrap64 (y * s) ∧ wrap64 (y * s) ≤ 99999)) = true
      · exact ⟨_, by simp only [Bool.not_true, Bool.false_eq_true, if_false, h3, if_true]; exact ⟨rfl, rfl⟩⟩
      · exact ⟨_, by simp only [Bool.not_true, Bool.false_eq_true, if_false, h3]; exact ⟨rfl, rfl⟩⟩
    · rw [decide_eq_false h2]; exact ⟨_, rfl, rfl⟩
  · rw [if_neg h, if_neg h]; exact ⟨_, rfl, rfl⟩

theorem FnExactRoundTenths : laws_FnExactRoundTenths.Pure := by
  intro x s _ _
  obtain ⟨r, hs, hi⟩ := both_same x s
  refine ⟨1, ?_⟩
  unfold laws_FnExactRoundTenths.f
  rw [hs, hi]
  simp

end Go.Proofs.Ytfdlgfpcfbklmaa.Pure
