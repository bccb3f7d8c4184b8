/- ConvertTenths of the program and of the reference answer the same for all three numbers: the law FnExactConvertTenths answers true. No conditions. -/
import Derived.Test.YtfdlgfpcfbklmaaPFnExactConvertTenthsx2
namespace Go.Proofs.Ytfdlgfpcfbklmaa.Pure
open Go.RowKit Go.Proofs.Ytfdlgfpcfbklmaa.PFnExactConvertTenths Go.Proofs.YtfdlgfpcfbklmaaW.PrintWords Go.Proofs.YtfdlgfpcfbklmaaW.PrintLast
set_option linter.unusedSimpArgs false

theorem unit_no (a : Int) (h : ¬ (1 ≤ a ∧ a ≤ 8)) : impl_unitOf.f a = some (0, (⟨#[]⟩ : ByteArray), 0, 0, 0, false) := by
  unfold impl_unitOf.f
  rw [if_neg (by omega), if_neg (by omega), if_neg (by omega), if_neg (by omega), if_neg (by omega), if_neg (by omega), if_neg (by omega), if_neg (by omega)]
theorem unit_yes (a : Int) (h1 : 1 ≤ a) (h2 : a ≤ 8) : ∃ w n m d, impl_unitOf.f a = some ((if a ≤ 3 then 1 else if a ≤ 6 then 2 else 3), w, n, m, d, true) := by
  have hc : a = 1 ∨ a = 2 ∨ a = 3 ∨ a = 4 ∨ a = 5 ∨ a = 6 ∨ a = 7 ∨ a = 8 := by omega
  rcases hc with rfl | rfl | rfl | rfl | rfl | rfl | rfl | rfl
  all_goals exact ⟨_, _, _, _, rfl⟩
theorem unit_some (a : Int) : spec_l3Unit.f a = some (decide (1 ≤ a ∧ a ≤ 8)) := by
  unfold spec_l3Unit.f spec_l1In.f
  by_cases h : a ≥ 1
  · rw [if_pos h]; simp [show 1 ≤ a from h]
  · rw [if_neg h]; simp [show ¬ 1 ≤ a from h]
def kindOf (a : Int) : Int := if a ≤ 3 then 0 else if a ≤ 6 then 1 else 2
theorem kind_some (a : Int) : spec_l3Kind.f a = some (kindOf a) := by
  unfold spec_l3Kind.f kindOf
  split
  · rfl
  · split <;> rfl
theorem tenths_some (x : Int) : spec_l3Tenths.f x = some (decide (-99999 ≤ x ∧ x ≤ 99999)) := by
  unfold spec_l3Tenths.f spec_l1In.f
  by_cases h : x ≥ -99999
  · rw [if_pos h]; simp [show -99999 ≤ x from h]
  · rw [if_neg h]; simp [show ¬ -99999 ≤ x from h]
theorem is_some (x : Int) : impl_isTenths.f x = some (decide (-99999 ≤ x ∧ x ≤ 99999)) := tenths_some x
theorem round_near (a b : Int) : spec_l3Round.f a b = impl_nearest.f a b := rfl
theorem wrap_in (c : Int) (h1 : -4000000000000000000 ≤ c) (h2 : c ≤ 4000000000000000000) : wrap64 c = c := by unfold wrap64; omega
theorem near_ends (x s : Int) (h1 : 1 ≤ s) (h2 : s ≤ 100000000) : ∃ y, impl_nearest.f x s = some y := by
  have h : wrap64 (2 * s) = 2 * s := wrap_in _ (by omega) (by omega)
  unfold impl_nearest.f
  rw [h]
  by_cases h0 : x < 0
  · rw [if_pos h0, if_neg (by omega)]; exact ⟨_, rfl⟩
  · rw [if_neg h0, if_neg (by omega)]; exact ⟨_, rfl⟩

theorem bind_id (o : Option Int) : (o.bind fun t => some t) = o := by cases o <;> rfl
/-- Two units of one kind: the reference's fraction is the program's. -/
theorem conv_same (x a b : Int) (hx : -99999 ≤ x ∧ x ≤ 99999) (ha : 1 ≤ a ∧ a ≤ 8) (hb : 1 ≤ b ∧ b ≤ 8) (hk : kindOf a = kindOf b) :
    ∃ k w n m d w' n' m' d', impl_unitOf.f a = some (k, w, n, m, d, true) ∧ impl_unitOf.f b = some (k, w', n', m', d', true) ∧
      spec_l3Convert.f x a b = impl_nearest.f (wrap64 ((wrap64 (n' * (wrap64 ((wrap64 (d * x)) - m)))) + (wrap64 (m' * n)))) (wrap64 (n * d')) ∧ 1 ≤ wrap64 (n * d') ∧ wrap64 (n * d') ≤ 100000000 := by
  have ca : a = 1 ∨ a = 2 ∨ a = 3 ∨ a = 4 ∨ a = 5 ∨ a = 6 ∨ a = 7 ∨ a = 8 := by omega
  have cb : b = 1 ∨ b = 2 ∨ b = 3 ∨ b = 4 ∨ b = 5 ∨ b = 6 ∨ b = 7 ∨ b = 8 := by omega
  rcases ca with rfl | rfl | rfl | rfl | rfl | rfl | rfl | rfl <;> rcases cb with rfl | rfl | rfl | rfl | rfl | rfl | rfl | rfl
  all_goals first
    | exact absurd hk (by decide)
    | (clear hk ha hb
       refine ⟨_, _, _, _, _, _, _, _, _, rfl, rfl, ?_, by unfold wrap64; omega, by unfold wrap64; omega⟩
       simp (disch := omega) only [spec_l3Convert.f, spec_l3Basic.f, Option.bind_some, wrap_in, round_near, bind_id, if_true, if_false, reduceIte, Int.reduceEq, Int.reduceMul]
       (try (congr 1; omega)))

theorem both_same (x a b : Int) : ∃ r, spec_ConvertTenths.f 1 x a b = some r ∧ impl_ConvertTenths.f 1 x a b = some r := by
  by_cases h : (-99999 ≤ x ∧ x ≤ 99999) ∧ (1 ≤ a ∧ a ≤ 8) ∧ (1 ≤ b ∧ b ≤ 8) ∧ kindOf a = kindOf b
  · obtain ⟨hx, ha, hb, hk⟩ := h
    obtain ⟨k, w, n, m, d, w', n', m', d', hu, hv, hc, hl, hh⟩ := conv_same x a b hx ha hb hk
    obtain ⟨y, hy⟩ := near_ends (wrap64 ((wrap64 (n' * (wrap64 ((wrap64 (d * x)) - m)))) + (wrap64 (m' * n)))) (wrap64 (n * d')) hl hh
    refine ⟨if -99999 ≤ y ∧ y ≤ 99999 then (y, true) else (0, false), ?_, ?_⟩
    · unfold spec_ConvertTenths.f
      simp only [tenths_some, unit_some, kind_some, Option.bind_some, spec_ConvertTenths.j0, decide_eq_true hx, decide_eq_true ha, decide_eq_true hb, if_true, hk, bne_self_eq_false, Bool.false_eq_true, if_false, hc, hy]
      by_cases h3 : -99999 ≤ y ∧ y ≤ 99999 <;> simp [h3]
    · unfold impl_ConvertTenths.f
      simp only [hu, hv, Option.bind_some, is_some, impl_ConvertTenths.j0, decide_eq_true hx, if_true, Bool.not_true, Bool.false_eq_true, if_false, hy]
      by_cases h3 : -99999 ≤ y ∧ y ≤ 99999 <;> simp [h3]
  · refine ⟨(0, false), ?_, ?_⟩
    · unfold spec_ConvertTenths.f
      simp only [tenths_some, unit_some, kind_some, Option.bind_some, spec_ConvertTenths.j0, if_true]
      by_cases h1 : -99999 ≤ x ∧ x ≤ 99999
      · by_cases h2 : 1 ≤ a ∧ a ≤ 8
        · by_cases h3 : 1 ≤ b ∧ b ≤ 8
          · have h4 : kindOf a ≠ kindOf b := fun e => h ⟨h1, h2, h3, e⟩
            have h5 : (kindOf a != kindOf b) = true := bne_iff_ne.2 h4
            rw [decide_eq_true h1, decide_eq_true h2, decide_eq_true h3, h5]; rfl
          · rw [decide_eq_true h1, decide_eq_true h2, decide_eq_false h3]; rfl
        · rw [decide_eq_true h1, decide_eq_false h2]; rfl
      · rw [decide_eq_false h1]; rfl
    · unfold impl_ConvertTenths.f
      by_cases h2 : 1 ≤ a ∧ a ≤ 8
      · obtain ⟨w, n, m, d, hu⟩ := unit_yes a h2.1 h2.2
        rw [hu]
        by_cases h3 : 1 ≤ b ∧ b ≤ 8
        · obtain ⟨w', n', m', d', hv⟩ := unit_yes b h3.1 h3.2
          rw [hv]
          simp only [Option.bind_some, if_true, is_some, impl_ConvertTenths.j0]
          by_cases h4 : kindOf a = kindOf b
          · have h1 : ¬ (-99999 ≤ x ∧ x ≤ 99999) := fun h1 => h ⟨h1, h2, h3, h4⟩
            rw [decide_eq_false h1]
            simp only [Bool.not_false, if_true, ite_self]
          · rw [if_neg (fun e => h4 (by unfold kindOf; by_cases e1 : a ≤ 3 <;> by_cases e2 : a ≤ 6 <;> by_cases e3 : b ≤ 3 <;> by_cases e4 : b ≤ 6 <;> simp [e1, e2, e3, e4] at e ⊢))]
        · rw [unit_no b h3]; rfl
      · rw [unit_no a h2]
        by_cases h3 : 1 ≤ b ∧ b ≤ 8
        · obtain ⟨w', n', m', d', hv⟩ := unit_yes b h3.1 h3.2
          rw [hv]; rfl
        · rw [unit_no b h3]; rfl

theorem FnExactConvertTenths : laws_FnExactConvertTenths.Pure := by
  intro x a b _ _ _
  obtain ⟨r, hs, hi⟩ := both_same x a b
  refine ⟨1, ?_⟩
  unfold laws_FnExactConvertTenths.f
  rw [hs, hi]
  simp

end Go.Proofs.Ytfdlgfpcfbklmaa.Pure
