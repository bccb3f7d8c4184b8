/- WarmerThan of the program and of the reference answer the same for all four numbers: the law FnExactWarmerThan answers true. No conditions. -/
import Derived.Test.YtfdlgfpcfbklmaaPFnExactWarmerThanx1
namespace Go.Proofs.Ytfdlgfpcfbklmaa.Pure
open Go.RowKit Go.Proofs.Ytfdlgfpcfbklmaa.PFnExactWarmerThan Go.Proofs.YtfdlgfpcfbklmaaW.PrintWords Go.Proofs.YtfdlgfpcfbklmaaW.PrintLast
set_option linter.unusedSimpArgs false

theorem unit_no (a : Int) (h : ¬ (1 ≤ a ∧ a ≤ 8)) : impl_unitOf.f a = some (0, (⟨#[]⟩ : ByteArray), 0, 0, 0, false) := by
  unfold impl_unitOf.f
  rw [if_neg (by omega), if_neg (by omega), if_neg (by omega), if_neg (by omega), if_neg (by omega), if_neg (by omega), if_neg (by omega), if_neg (by omega)]
theorem unit_far (a : Int) (h1 : 4 ≤ a) (h2 : a ≤ 8) : ∃ k w n m d, impl_unitOf.f a = some (k, w, n, m, d, true) ∧ k ≠ 1 := by
  have hc : a = 4 ∨ a = 5 ∨ a = 6 ∨ a = 7 ∨ a = 8 := by omega
  rcases hc with rfl | rfl | rfl | rfl | rfl
  all_goals exact ⟨_, _, _, _, _, rfl, by decide⟩
theorem unit_some (a : Int) : spec_l3Unit.f a = some (decide (1 ≤ a ∧ a ≤ 8)) := by
  unfold spec_l3Unit.f spec_l1In.f
  by_cases h : a ≥ 1
  · rw [if_pos h]; simp [show 1 ≤ a from h]
  · rw [if_neg h]; simp [show ¬ 1 ≤ a from h]
theorem kind_some (a : Int) : spec_l3Kind.f a = some (if a ≤ 3 then 0 else if a ≤ 6 then 1 else 2) := by
  unfold spec_l3Kind.f
  split
  · rfl
  · split <;> rfl
theorem tenths_some (x : Int) : spec_l3Tenths.f x = some (decide (-99999 ≤ x ∧ x ≤ 99999)) := by
  unfold spec_l3Tenths.f spec_l1In.f
  by_cases h : x ≥ -99999
  · rw [if_pos h]; simp [show -99999 ≤ x from h]
  · rw [if_neg h]; simp [show ¬ -99999 ≤ x from h]
theorem is_some (x : Int) : impl_isTenths.f x = some (decide (-99999 ≤ x ∧ x ≤ 99999)) := tenths_some x

theorem wrap_in (c : Int) (h1 : -4000000000000000000 ≤ c) (h2 : c ≤ 4000000000000000000) : wrap64 c = c := by unfold wrap64; omega
/-- A test that the reference makes, and the program: both say no. -/
theorem spec_no (x a y b : Int) (h : ¬ ((-99999 ≤ x ∧ x ≤ 99999) ∧ (-99999 ≤ y ∧ y ≤ 99999) ∧ (1 ≤ a ∧ a ≤ 3) ∧ (1 ≤ b ∧ b ≤ 3))) : spec_WarmerThan.f 1 x a y b = some (false, false) := by
  unfold spec_WarmerThan.f
  simp only [tenths_some, unit_some, kind_some, Option.bind_some, spec_WarmerThan.j0, if_true]
  by_cases h1 : -99999 ≤ x ∧ x ≤ 99999
  · by_cases h2 : -99999 ≤ y ∧ y ≤ 99999
    · by_cases h3 : 1 ≤ a ∧ a ≤ 8
      · by_cases h4 : 1 ≤ b ∧ b ≤ 8
        · by_cases h5 : a ≤ 3
          · have h6 : ¬ b ≤ 3 := by omega
            by_cases h7 : b ≤ 6 <;> simp [h1, h2, h3, h4, h5, h6, h7]
          · by_cases h7 : a ≤ 6 <;> simp [h1, h2, h3, h4, h5, h7]
        · simp [h1, h2, h3, h4]
      · simp [h1, h2, h3]
    · simp [h1, h2]
  · simp [h1]
theorem impl_no (x a y b : Int) (h : ¬ ((-99999 ≤ x ∧ x ≤ 99999) ∧ (-99999 ≤ y ∧ y ≤ 99999) ∧ (1 ≤ a ∧ a ≤ 3) ∧ (1 ≤ b ∧ b ≤ 3))) : impl_WarmerThan.f x a y b = some (false, false) := by
  have kinds : ∀ c : Int, ∃ k w n m d e, impl_unitOf.f c = some (k, w, n, m, d, e) ∧ (¬ (1 ≤ c ∧ c ≤ 3) → k ≠ 1 ∨ e = false) := by
    intro c
    by_cases hc : 1 ≤ c ∧ c ≤ 3
    · have : c = 1 ∨ c = 2 ∨ c = 3 := by omega
      rcases this with rfl | rfl | rfl
      all_goals exact ⟨_, _, _, _, _, _, rfl, fun h => absurd hc h⟩
    · by_cases h8 : 1 ≤ c ∧ c ≤ 8
      · obtain ⟨k, w, n, m, d, hu, hk⟩ := unit_far c (by omega) (by omega)
        exact ⟨k, w, n, m, d, _, hu, fun _ => .inl hk⟩
      · exact ⟨_, _, _, _, _, _, unit_no c h8, fun _ => .inr rfl⟩
  obtain ⟨k, w, n, m, d, e, hu, hk⟩ := kinds a
  obtain ⟨k', w', n', m', d', e', hv, hk'⟩ := kinds b
  unfold impl_WarmerThan.f
  rw [hu, hv]
  simp only [Option.bind_some, is_some]
  by_cases he : e = true
  · rw [if_pos he]
    by_cases he' : e' = true
    · rw [if_pos he']
      by_cases hk1 : k = 1
      · rw [if_pos hk1]
        by_cases hk2 : k' = 1
        · rw [if_pos hk2]
          have ha : 1 ≤ a ∧ a ≤ 3 := Classical.byContradiction fun hn => (hk hn).elim (fun z => z hk1) (fun z => by rw [he] at z; cases z)
          have hb : 1 ≤ b ∧ b ≤ 3 := Classical.byContradiction fun hn => (hk' hn).elim (fun z => z hk2) (fun z => by rw [he'] at z; cases z)
          by_cases h1 : -99999 ≤ x ∧ x ≤ 99999
          · have h2 : ¬ (-99999 ≤ y ∧ y ≤ 99999) := fun h2 => h ⟨h1, h2, ha, hb⟩
            simp [h1, h2]
          · simp [h1]
        · rw [if_neg hk2]
      · rw [if_neg hk1]
    · rw [if_neg he']
  · rw [if_neg he]

theorem both_same (x a y b : Int) : ∃ r, spec_WarmerThan.f 1 x a y b = some r ∧ impl_WarmerThan.f x a y b = some r := by
  by_cases h : (-99999 ≤ x ∧ x ≤ 99999) ∧ (-99999 ≤ y ∧ y ≤ 99999) ∧ (1 ≤ a ∧ a ≤ 3) ∧ (1 ≤ b ∧ b ≤ 3)
  · obtain ⟨h1, h2, ha, hb⟩ := h
    have ca : a = 1 ∨ a = 2 ∨ a = 3 := by omega
    have cb : b = 1 ∨ b = 2 ∨ b = 3 := by omega
    refine ⟨((spec_WarmerThan.f 1 x a y b).getD (false, false)), ?_, ?_⟩
    · unfold spec_WarmerThan.f
      simp only [tenths_some, unit_some, kind_some, Option.bind_some, spec_WarmerThan.j0, decide_eq_true h1, decide_eq_true h2]
      rcases ca with rfl | rfl | rfl <;> rcases cb with rfl | rfl | rfl <;> rfl
    · unfold spec_WarmerThan.f impl_WarmerThan.f
      simp only [tenths_some, is_some, unit_some, kind_some, Option.bind_some, spec_WarmerThan.j0, decide_eq_true h1, decide_eq_true h2]
      rcases ca with rfl | rfl | rfl <;> rcases cb with rfl | rfl | rfl <;>
        simp (disch := omega) only [impl_unitOf.f, spec_l3Basic.f, Option.bind_some, wrap_in, if_true, reduceIte, Int.reduceEq, Int.reduceLE, Int.reduceNeg, and_self, decide_true, Bool.and_self, bne_self_eq_false, Bool.false_eq_true, if_false, Option.getD_some, Bool.not_true, Bool.not_false] <;> (congr 2; simp only [decide_eq_decide]; omega)
  · exact ⟨_, spec_no x a y b h, impl_no x a y b h⟩

theorem FnExactWarmerThan : laws_FnExactWarmerThan.Pure := by
  intro x a y b _ _ _ _
  obtain ⟨r, hs, hi⟩ := both_same x a y b
  refine ⟨1, ?_⟩
  unfold laws_FnExactWarmerThan.f
  rw [hs, hi]
  simp

end Go.Proofs.Ytfdlgfpcfbklmaa.Pure
