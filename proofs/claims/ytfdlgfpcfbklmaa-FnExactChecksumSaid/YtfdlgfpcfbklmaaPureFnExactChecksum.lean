/- Checksum of the program and of the reference answer the same for every string: the law FnExactChecksum answers true. No conditions. -/
import Derived.Test.YtfdlgfpcfbklmaaPFnExactChecksumx1
namespace Go.Proofs.Ytfdlgfpcfbklmaa.Pure
open Go.RowKit Go.Proofs.Ytfdlgfpcfbklmaa.PFnExactChecksum Go.Proofs.YtfdlgfpcfbklmaaW.PrintWords Go.Proofs.YtfdlgfpcfbklmaaW.PrintLast

theorem sums_same (k : Nat) : ∀ s x i, impl_checksum.l0 k s x i = spec_l1Sum.l0 k s x i := by
  induction k with
  | zero => intro s x i; rfl
  | succ k ih => intro s x i; simp only [impl_checksum.l0, spec_l1Sum.l0, ih]

theorem sum_ends (s : ByteArray) (hn : s.size ≤ 140737488351232) (d : Nat) : ∀ (k : Nat) (x i : Int), 0 ≤ i → i ≤ s.size → (s.size : Int) - i = d → d < k →
    ∃ r, spec_l1Sum.l0 k s x i = some r := by
  induction d with
  | zero =>
    intro k x i h0 h1 hd hk
    obtain ⟨k, rfl⟩ : ∃ m, k = m + 1 := ⟨k - 1, by omega⟩
    exact ⟨x, by simp only [spec_l1Sum.l0]; rw [if_neg (by omega)]⟩
  | succ d ih =>
    intro k x i h0 h1 hd hk
    obtain ⟨k, rfl⟩ : ∃ m, k = m + 1 := ⟨k - 1, by omega⟩
    have hlt : i < (s.size : Int) := by omega
    simp only [spec_l1Sum.l0]
    rw [if_pos hlt, if_pos h0, show wrap64 (i + 1) = i + 1 by unfold wrap64; omega]
    exact ih k _ (i + 1) (by omega) (by omega) (by omega) (by omega)

theorem FnExactChecksum : laws_FnExactChecksum.Pure := by
  intro s hn
  obtain ⟨r, hr⟩ := sum_ends s hn s.size (s.size + 1) 7 0 (by omega) (by omega) (by omega) (by omega)
  refine ⟨s.size + 1, ?_⟩
  unfold laws_FnExactChecksum.f spec_Checksum.f impl_Checksum.f spec_l1Sum.f impl_checksum.f
  rw [sums_same, hr]
  by_cases h : (s.size : Int) > 4000 <;> simp [h]

end Go.Proofs.Ytfdlgfpcfbklmaa.Pure
