/- ParseUnit of the program and of the reference answer the same for every string: the law FnExactParseUnit answers true. No conditions. -/
import Derived.Test.YtfdlgfpcfbklmaaPFnExactParseUnitx1
namespace Go.Proofs.Ytfdlgfpcfbklmaa.Pure
open Go.RowKit Go.Proofs.Ytfdlgfpcfbklmaa.PFnExactParseUnit Go.Proofs.YtfdlgfpcfbklmaaW.PrintWords Go.Proofs.YtfdlgfpcfbklmaaW.PrintLast

theorem wrap_unit {i : Int} (h0 : 0 ≤ i) (h : i ≤ 9) : wrap64 (i + 1) = i + 1 := by unfold wrap64; omega

theorem word_at (i : Int) (h0 : 1 ≤ i) (h : i ≤ 8) : ∃ a b c d e, impl_unitOf.f i = some (a, rdOf ByteArray.empty [(⟨#[]⟩ : ByteArray), (⟨#[67]⟩ : ByteArray), (⟨#[70]⟩ : ByteArray), (⟨#[75]⟩ : ByteArray), (⟨#[109, 47, 115]⟩ : ByteArray), (⟨#[107, 116]⟩ : ByteArray), (⟨#[107, 109, 47, 104]⟩ : ByteArray), (⟨#[109, 109]⟩ : ByteArray), (⟨#[105, 110]⟩ : ByteArray)] i, b, c, d, e) := by
  have hc : i = 1 ∨ i = 2 ∨ i = 3 ∨ i = 4 ∨ i = 5 ∨ i = 6 ∨ i = 7 ∨ i = 8 := by omega
  rcases hc with rfl | rfl | rfl | rfl | rfl | rfl | rfl | rfl
  all_goals exact ⟨_, _, _, _, _, rfl⟩

theorem loops_same (s : ByteArray) (d : Nat) : ∀ (k : Nat) (i : Int), 1 ≤ i → 9 - i = d → d < k →
    ∃ r, spec_ParseUnit.l0 k s i = some r ∧ impl_ParseUnit.l0 k s i = some r := by
  induction d with
  | zero =>
    intro k i h0 hd hk
    obtain ⟨k, rfl⟩ : ∃ m, k = m + 1 := ⟨k - 1, by omega⟩
    refine ⟨(0, false), ?_, ?_⟩
    · simp only [spec_ParseUnit.l0]; rw [if_neg (by omega)]
    · simp only [impl_ParseUnit.l0]; rw [if_neg (by omega)]
  | succ d ih =>
    intro k i h0 hd hk
    obtain ⟨k, rfl⟩ : ∃ m, k = m + 1 := ⟨k - 1, by omega⟩
    obtain ⟨a, b, c, d1, e, hw⟩ := word_at i h0 (by omega)
    obtain ⟨r, hr1, hr2⟩ := ih k (i + 1) (by omega) (by omega) (by omega)
    simp only [spec_ParseUnit.l0, impl_ParseUnit.l0, spec_l3Words.f, hw, Option.bind_some]
    rw [if_pos (show i ≤ 8 by omega), if_pos (show 0 ≤ i by omega), if_pos (by simp; omega), wrap_unit (by omega) (by omega)]
    rw [if_pos (show i ≤ 8 by omega), hr1, hr2]
    split
    · exact ⟨_, rfl, rfl⟩
    · exact ⟨_, rfl, rfl⟩

theorem FnExactParseUnit : laws_FnExactParseUnit.Pure := by
  intro s hn
  obtain ⟨r, hs, hi⟩ := loops_same s 8 9 1 (by omega) (by omega) (by omega)
  refine ⟨9, ?_⟩
  unfold laws_FnExactParseUnit.f spec_ParseUnit.f impl_ParseUnit.f
  rw [hs, hi]
  by_cases h : (s.size : Int) > 1048576 <;> simp [h]

end Go.Proofs.Ytfdlgfpcfbklmaa.Pure
