/- BeaufortOf of the program and of the reference answer the same for all two numbers: the law FnExactBeaufortOf answers true. No conditions. -/
import Derived.Test.YtfdlgfpcfbklmaaPFnExactBeaufortOfx2
namespace Go.Proofs.Ytfdlgfpcfbklmaa.Pure
open Go.RowKit Go.Proofs.Ytfdlgfpcfbklmaa.PFnExactBeaufortOf Go.Proofs.YtfdlgfpcfbklmaaW.PrintWords Go.Proofs.YtfdlgfpcfbklmaaW.PrintLast
set_option linter.unusedSimpArgs false

theorem unit_no (a : Int) (h : ¬ (1 ≤ a ∧ a ≤ 8)) : impl_unitOf.f a = some (0, (⟨#[]⟩ : ByteArray), 0, 0, 0, false) := by
  unfold impl_unitOf.f
  rw [if_neg (by omega), if_neg (by omega), if_neg (by omega), if_neg (by omega), if_neg (by omega), if_neg (by omega), if_neg (by omega), if_neg (by omega)]
theorem in_some (x a b : Int) : spec_l1In.f x a b = some (decide (a ≤ x ∧ x ≤ b)) := by
  unfold spec_l1In.f
  by_cases h : x ≥ a
  · rw [if_pos h]; simp [show a ≤ x from h]
  · rw [if_neg h]; simp [show ¬ a ≤ x from h]
theorem within_some (x a b : Int) : impl_within.f x a b = some (decide (a ≤ x ∧ x ≤ b)) := in_some x a b
theorem unit_some (a : Int) : spec_l3Unit.f a = some (decide (1 ≤ a ∧ a ≤ 8)) := by
  unfold spec_l3Unit.f; rw [in_some]; rfl
theorem kind_some (a : Int) : spec_l3Kind.f a = some (if a ≤ 3 then 0 else if a ≤ 6 then 1 else 2) := by
  unfold spec_l3Kind.f
  split
  · rfl
  · split <;> rfl

theorem loops_same (p q : Int) (x : Int) {y : Int} (h : wrap64 (x * q) = y) (u : Int) (w : ByteArray) (v : Int) (d : Nat) : ∀ (k : Nat) (f i : Int), 0 ≤ i → 13 - i = d → d < k →
    ∃ r, spec_BeaufortOf.l0 k [0, 3, 16, 34, 55, 80, 108, 139, 172, 208, 245, 285, 327] y p f i = some r ∧ impl_BeaufortOf.l0 k x f i u w p v q = some r := by
  induction d with
  | zero =>
    intro k f i h0 hd hk
    obtain ⟨k, rfl⟩ : ∃ m, k = m + 1 := ⟨k - 1, by omega⟩
    simp only [spec_BeaufortOf.l0, impl_BeaufortOf.l0]
    rw [if_neg (by omega), if_neg (by omega)]
    exact ⟨_, rfl, rfl⟩
  | succ d ih =>
    intro k f i h0 hd hk
    obtain ⟨k, rfl⟩ : ∃ m, k = m + 1 := ⟨k - 1, by omega⟩
    simp only [spec_BeaufortOf.l0, impl_BeaufortOf.l0, h]
    rw [if_pos (show i ≤ 12 by omega), if_pos (show i < 13 by omega), if_pos h0, if_pos (by simp only [List.length_cons, List.length_nil]; omega), if_pos h0, show wrap64 (i + 1) = i + 1 by unfold wrap64; omega]
    split
    · exact ih k i (i + 1) (by omega) (by omega) (by omega)
    · exact ih k f (i + 1) (by omega) (by omega) (by omega)

theorem both_same (x a : Int) : ∃ r, spec_BeaufortOf.f 20 x a = some r ∧ impl_BeaufortOf.f 20 x a = some r := by
  unfold spec_BeaufortOf.f impl_BeaufortOf.f
  rw [in_some, unit_some]
  simp only [Option.bind_some, kind_some, within_some, spec_BeaufortOf.j0, impl_BeaufortOf.j0]
  by_cases hx : 0 ≤ x ∧ x ≤ 99999
  · rw [decide_eq_true hx]
    by_cases ha : 1 ≤ a ∧ a ≤ 8
    · rw [decide_eq_true ha]
      have ca : a = 1 ∨ a = 2 ∨ a = 3 ∨ a = 4 ∨ a = 5 ∨ a = 6 ∨ a = 7 ∨ a = 8 := by omega
      rcases ca with rfl | rfl | rfl | rfl | rfl | rfl | rfl | rfl
      · exact ⟨_, rfl, rfl⟩
      · exact ⟨_, rfl, rfl⟩
      · exact ⟨_, rfl, rfl⟩
      · exact loops_same 1 1 x (by unfold wrap64; omega) _ _ _ 13 19 0 0 (by omega) (by omega) (by omega)
      · exact loops_same 3600 1852 x rfl _ _ _ 13 19 0 0 (by omega) (by omega) (by omega)
      · exact loops_same 18 5 x rfl _ _ _ 13 19 0 0 (by omega) (by omega) (by omega)
      · exact ⟨_, rfl, rfl⟩
      · exact ⟨_, rfl, rfl⟩
    · rw [decide_eq_false ha, unit_no a ha]; exact ⟨_, rfl, rfl⟩
  · rw [decide_eq_false hx]
    by_cases ha : 1 ≤ a ∧ a ≤ 8
    · have ca : a = 1 ∨ a = 2 ∨ a = 3 ∨ a = 4 ∨ a = 5 ∨ a = 6 ∨ a = 7 ∨ a = 8 := by omega
      rcases ca with rfl | rfl | rfl | rfl | rfl | rfl | rfl | rfl
      all_goals exact ⟨_, rfl, rfl⟩
    · rw [unit_no a ha]; exact ⟨_, rfl, rfl⟩

theorem FnExactBeaufortOf : laws_FnExactBeaufortOf.Pure := by
  intro x a _ _
  obtain ⟨r, hs, hi⟩ := both_same x a
  refine ⟨20, ?_⟩
  unfold laws_FnExactBeaufortOf.f
  rw [hs, hi]
  simp

end Go.Proofs.Ytfdlgfpcfbklmaa.Pure
