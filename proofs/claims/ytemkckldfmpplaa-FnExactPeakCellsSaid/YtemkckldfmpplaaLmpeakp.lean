/- A deterministic reading of Go code over plain data: what functions of the program compute. No conditions. -/
import Derived.Test.YtemkckldfmpplaaLmbase
import Derived.Test.YtemkckldfmpplaaLmnbh
import Derived.Test.YtemkckldfmpplaaEngT
namespace Go.Proofs.Ytemkckldfmpplaa.Eng
open Go Go.Proofs
set_option maxRecDepth 100000
set_option maxHeartbeats 2000000
set_option linter.unusedSimpArgs false
set_option linter.unusedVariables false
/-- A cell that is greater than all others around it: as impl counts, as spec looks at the sorted values. -/
theorem sorted_le {l : List Int} (h : l.Pairwise (· ≤ ·)) {i j : Nat} (hij : i ≤ j) (hj : j < l.length) : l[i]'(by omega) ≤ l[j] := by
  rcases Nat.lt_or_ge i j with hlt | hge
  · exact List.pairwise_iff_getElem.1 h i j (by omega) hj hlt
  · have : i = j := by omega
    subst this
    exact Int.le_refl _
theorem peak_same {L : List Int} {n : Int} (hn : n ∈ L) : (L.countP (fun x => decide (n ≤ x)) = 1) ↔ (n = (sortL L)[L.length - 1]'(by rw [sortL_length]; have := List.length_pos_of_mem hn; omega) ∧ (L.length = 1 ∨ (sortL L).getD (L.length - 2) 0 < n)) := by
  have hp := List.length_pos_of_mem hn
  have hs := sortL_sorted L
  have hc := sortL_count L (fun x => decide (n ≤ x))
  have hl := sortL_length L
  have hm : n ∈ sortL L := (sortL_perm L).mem_iff.2 hn
  rw [← hc]
  obtain ⟨S, hS⟩ : ∃ S, sortL L = S := ⟨_, rfl⟩
  simp only [hS] at hs hl hm ⊢
  obtain ⟨m, hm1⟩ : ∃ m, L.length = m + 1 := ⟨L.length - 1, by omega⟩
  simp only [hm1] at hl ⊢
  have hsplit : S = S.take m ++ [S[m]'(by omega)] := by
    rw [← List.take_succ_eq_append_getElem (by omega), List.take_of_length_le (by omega)]
  have hcount : S.countP (fun x => decide (n ≤ x)) = (S.take m).countP (fun x => decide (n ≤ x)) + (if n ≤ S[m]'(by omega) then 1 else 0) := by
    conv => lhs; rw [hsplit]
    rw [List.countP_append, List.countP_singleton]
    simp
  obtain ⟨j, hj, hjn⟩ := List.getElem_of_mem hm
  have hlast : n ≤ S[m]'(by omega) := by rw [← hjn]; exact sorted_le hs (by omega) (by omega)
  rw [hcount, if_pos hlast]
  constructor
  · intro h
    have h0 : (S.take m).countP (fun x => decide (n ≤ x)) = 0 := by omega
    rw [List.countP_eq_zero] at h0
    have hlt : ∀ i (hi : i < m), S[i]'(by omega) < n := by
      intro i hi
      have := h0 (S[i]'(by omega)) (List.mem_take_iff_getElem.2 ⟨i, by omega, rfl⟩)
      simpa using this
    have hjm : j = m := by
      rcases Nat.lt_or_ge j m with hlt' | hge
      · have := hlt j hlt'
        omega
      · omega
    subst hjm
    refine ⟨by simp [← hjn], ?_⟩
    rcases Nat.eq_zero_or_pos j with h00 | hpos
    · exact .inl (by omega)
    · refine .inr ?_
      have := hlt (j - 1) (by omega)
      have e : j + 1 - 2 = j - 1 := by omega
      rw [e, List.getD_eq_getElem?_getD, List.getElem?_eq_getElem (by omega)]
      exact this
  · rintro ⟨he, h⟩
    have h0 : (S.take m).countP (fun x => decide (n ≤ x)) = 0 := by
      rw [List.countP_eq_zero]
      intro x hx
      obtain ⟨i, hi, rfl⟩ := List.mem_take_iff_getElem.1 hx
      rcases h with h | h
      · omega
      · rw [List.getD_eq_getElem?_getD, List.getElem?_eq_getElem (by omega)] at h
        simp only [Option.getD_some] at h
        have := sorted_le hs (i := i) (j := m + 1 - 2) (by omega) (by omega)
        simp only [decide_eq_true_eq]
        omega
    omega

end Go.Proofs.Ytemkckldfmpplaa.Eng
