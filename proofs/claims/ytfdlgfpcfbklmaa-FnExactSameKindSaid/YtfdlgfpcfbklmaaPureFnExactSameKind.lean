/- SameKind of the program and of the reference answer the same for all two numbers: the law FnExactSameKind answers true. No conditions. -/
import Derived.Test.YtfdlgfpcfbklmaaPFnExactSameKindx1
namespace Go.Proofs.Ytfdlgfpcfbklmaa.Pure
open Go.RowKit Go.Proofs.Ytfdlgfpcfbklmaa.PFnExactSameKind Go.Proofs.YtfdlgfpcfbklmaaW.PrintWords Go.Proofs.YtfdlgfpcfbklmaaW.PrintLast

theorem unit_yes (a : Int) (h1 : 1 ≤ a) (h2 : a ≤ 8) : ∃ w n m d, impl_unitOf.f a = some ((if a ≤ 3 then 1 else if a ≤ 6 then 2 else 3), w, n, m, d, true) := by
  have hc : a = 1 ∨ a = 2 ∨ a = 3 ∨ a = 4 ∨ a = 5 ∨ a = 6 ∨ a = 7 ∨ a = 8 := by omega
  rcases hc with rfl | rfl | rfl | rfl | rfl | rfl | rfl | rfl
  all_goals exact ⟨_, _, _, _, rfl⟩
theorem unit_no (a : Int) (h : ¬ (1 ≤ a ∧ a ≤ 8)) : impl_unitOf.f a = some (0, (⟨#[]⟩ : ByteArray), 0, 0, 0, false) := by
  unfold impl_unitOf.f
  rw [if_neg (by omega), if_neg (by omega), if_neg (by omega), if_neg (by omega), if_neg (by omega), if_neg (by omega), if_neg (by omega), if_neg (by omega)]
theorem unit_some (a : Int) : spec_l3Unit.f a = some (decide (1 ≤ a ∧ a ≤ 8)) := by
  unfold spec_l3Unit.f spec_l1In.f
  by_cases h : a ≥ 1
  · rw [if_pos h]; simp [show 1 ≤ a from h]
  · rw [if_neg h]; simp [show ¬ 1 ≤ a from h]
theorem kind_some (a : Int) : spec_l3Kind.f a = some (if a ≤ 3 then 0 else if a ≤ 6 then 1 else 2) := by
  unfold spec_l3Kind.f
  split
  · rfl
  · split <;> rfl

theorem both_same (a b : Int) : ∃ r, spec_SameKind.f 1 a b = some r ∧ impl_SameKind.f a b = some r := by
  unfold spec_SameKind.f impl_SameKind.f
  rw [unit_some, unit_some]
  simp only [Option.bind_some, spec_SameKind.j0, kind_some]
  by_cases ha : 1 ≤ a ∧ a ≤ 8
  · rw [decide_eq_true ha]
    obtain ⟨w, n, m, d, hu⟩ := unit_yes a ha.1 ha.2
    by_cases hb : 1 ≤ b ∧ b ≤ 8
    · rw [decide_eq_true hb]
      obtain ⟨w', n', m', d', hv⟩ := unit_yes b hb.1 hb.2
      rw [hu, hv]
      refine ⟨_, rfl, ?_⟩
      simp only [Option.bind_some, if_true]
      congr 2
      by_cases h1 : a ≤ 3 <;> by_cases h2 : a ≤ 6 <;> by_cases h3 : b ≤ 3 <;> by_cases h4 : b ≤ 6 <;> simp [h1, h2, h3, h4]
    · rw [decide_eq_false hb, hu, unit_no b hb]
      exact ⟨_, rfl, rfl⟩
  · rw [decide_eq_false ha, unit_no a ha]
    by_cases hb : 1 ≤ b ∧ b ≤ 8
    · obtain ⟨w', n', m', d', hv⟩ := unit_yes b hb.1 hb.2
      rw [hv]; exact ⟨_, rfl, rfl⟩
    · rw [unit_no b hb]; exact ⟨_, rfl, rfl⟩

theorem FnExactSameKind : laws_FnExactSameKind.Pure := by
  intro a b _ _
  obtain ⟨r, hs, hi⟩ := both_same a b
  refine ⟨1, ?_⟩
  unfold laws_FnExactSameKind.f
  rw [hs, hi]
  simp

end Go.Proofs.Ytfdlgfpcfbklmaa.Pure
