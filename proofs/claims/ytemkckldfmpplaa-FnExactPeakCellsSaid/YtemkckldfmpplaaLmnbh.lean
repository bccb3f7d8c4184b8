/- A deterministic reading of Go code over plain data: what functions of the program compute. No conditions. -/
import Derived.Test.YtemkckldfmpplaaLmbase
import Derived.Test.YtemkckldfmpplaaEngT
namespace Go.Proofs.Ytemkckldfmpplaa.Eng
open Go Go.Proofs
set_option maxRecDepth 100000
set_option maxHeartbeats 2000000
set_option linter.unusedSimpArgs false
set_option linter.unusedVariables false
/-- Where a number goes in a list that rises: behind the last one that is not greater. -/
def posAt (l : List Int) (n : Int) : Nat → Nat
  | 0 => 0
  | k + 1 => if n < l.getD k 0 then posAt l n k else k + 1
def pos (l : List Int) (n : Int) : Nat := posAt l n l.length
def ins (l : List Int) (n : Int) : List Int := l.take (pos l n) ++ n :: l.drop (pos l n)
theorem posAt_le (l : List Int) (n : Int) : ∀ k, posAt l n k ≤ k
  | 0 => Nat.le_refl _
  | k + 1 => by
    unfold posAt
    split
    · exact Nat.le_succ_of_le (posAt_le l n k)
    · exact Nat.le_refl _
theorem posAt_gt (l : List Int) (n : Int) : ∀ k j, posAt l n k ≤ j → j < k → n < l.getD j 0
  | 0, j, _, h => by omega
  | k + 1, j, h, h' => by
    unfold posAt at h
    split at h
    · by_cases e : j = k
      · subst e; assumption
      · exact posAt_gt l n k j h (by omega)
    · omega
theorem posAt_stop (l : List Int) (n : Int) : ∀ k j, posAt l n k = j + 1 → ¬ n < l.getD j 0
  | 0, j, h => by simp [posAt] at h
  | k + 1, j, h => by
    unfold posAt at h
    split at h
    · exact posAt_stop l n k j h
    · obtain rfl : k = j := by omega
      assumption
theorem pos_le (l : List Int) (n : Int) : pos l n ≤ l.length := posAt_le l n _
theorem pos_gt {l : List Int} {n : Int} {j : Nat} (h : pos l n ≤ j) (h' : j < l.length) : n < l[j] := by
  have := posAt_gt l n _ j h h'
  simpa [List.getD, List.getElem?_eq_getElem h'] using this
theorem pos_stop {l : List Int} {n : Int} {j : Nat} (h : pos l n = j + 1) (h' : j < l.length) : ¬ n < l[j] := by
  have := posAt_stop l n _ j h
  simpa [List.getD, List.getElem?_eq_getElem h'] using this
theorem ins_length (l : List Int) (n : Int) : (ins l n).length = l.length + 1 := by
  have := pos_le l n
  simp [ins]; omega
theorem ins_perm (l : List Int) (n : Int) : (ins l n).Perm (n :: l) := by
  unfold ins
  refine (List.perm_middle).trans ?_
  rw [List.take_append_drop]
/-- The state of a shift to the right: i of the elements behind the place are moved. -/
def shiftL (l : List Int) (n : Int) (i : Nat) : List Int := l.take (l.length - i) ++ (if i = 0 then n else l.getD (l.length - i) 0) :: l.drop (l.length - i)
theorem shiftL_zero (l : List Int) (n : Int) : shiftL l n 0 = l ++ [n] := by simp [shiftL]
theorem shiftL_length (l : List Int) (n : Int) (i : Nat) : (shiftL l n i).length = l.length + 1 := by simp [shiftL]; omega
theorem shiftL_get (l : List Int) (n : Int) (i m : Nat) (h : m + (i + 1) = l.length) : (shiftL l n i)[m]? = some (l[m]'(by omega)) := by
  unfold shiftL
  rw [List.getElem?_append_left (by simp; omega), List.getElem?_take, if_pos (by omega), List.getElem?_eq_getElem]
theorem shiftL_set (l : List Int) (n : Int) (i m : Nat) (h : m + (i + 1) = l.length) : (shiftL l n i).set (m + 1) (l[m]'(by omega)) = shiftL l n (i + 1) := by
  have hm : m < l.length := by omega
  have e0 : l.length - i = m + 1 := by omega
  have e1 : l.length - (i + 1) = m := by omega
  have e2 : l.getD m 0 = l[m] := by simp [List.getD, List.getElem?_eq_getElem hm]
  unfold shiftL
  rw [e0, e1, if_neg (by omega : ¬ i + 1 = 0), e2]
  have e3 : (l.take (m + 1)).length = m + 1 := by simp; omega
  rw [List.set_append, if_neg (by omega), e3, Nat.sub_self, List.set_cons_zero, List.take_succ_eq_append_getElem hm, List.append_assoc]
  rw [List.drop_eq_getElem_cons hm]
  rfl
theorem shiftL_ins (l : List Int) (n : Int) : (shiftL l n (l.length - pos l n)).set (pos l n) n = ins l n := by
  unfold shiftL ins
  have hp := pos_le l n
  have e : l.length - (l.length - pos l n) = pos l n := by omega
  rw [e, List.set_append, if_neg (by simp; omega)]
  have : pos l n - (l.take (pos l n)).length = 0 := by simp; omega
  rw [this, List.set_cons_zero]
/-- The values of a row of a field from column a, d of them, that are not missing. -/
def upL (l : List Int) : List Int := l.filter fun x => x != -9999
def sortL (l : List Int) : List Int := l.foldl ins []
theorem sortL_perm_aux : ∀ (l acc : List Int), (l.foldl ins acc).Perm (acc ++ l)
  | [], acc => by simp
  | x :: l, acc => by
    rw [List.foldl_cons]
    refine (sortL_perm_aux l (ins acc x)).trans ?_
    refine ((ins_perm acc x).append_right l).trans ?_
    exact (List.perm_middle (l₁ := acc) (l₂ := l) (a := x)).symm
theorem sortL_perm (l : List Int) : (sortL l).Perm l := by simpa [sortL] using sortL_perm_aux l []
theorem ins_sorted {l : List Int} (h : l.Pairwise (· ≤ ·)) (n : Int) : (ins l n).Pairwise (· ≤ ·) := by
  have hp := pos_le l n
  unfold ins
  rw [List.pairwise_append]
  refine ⟨h.sublist (List.take_sublist _ _), ?_, ?_⟩
  · rw [List.pairwise_cons]
    refine ⟨fun a ha => ?_, h.sublist (List.drop_sublist _ _)⟩
    obtain ⟨i, hi, rfl⟩ := List.mem_iff_getElem.1 ha
    rw [List.getElem_drop]
    have hi' : pos l n + i < l.length := by simpa [List.length_drop] using (by simp at hi; omega : pos l n + i < l.length)
    exact Int.le_of_lt (pos_gt (Nat.le_add_right _ _) hi')
  · intro a ha b hb
    have hab : a ≤ n := by
      obtain ⟨i, hi, rfl⟩ := List.mem_iff_getElem.1 ha
      rw [List.length_take] at hi
      have hi' : i < pos l n := by omega
      rw [List.getElem_take]
      obtain ⟨j, hj⟩ : ∃ j, pos l n = j + 1 := ⟨pos l n - 1, by omega⟩
      have h1 : ¬ n < l[j] := pos_stop hj (by omega)
      by_cases e : i = j
      · subst e; omega
      · have := List.pairwise_iff_getElem.1 h i j (by omega) (by omega) (by omega)
        omega
    rcases List.mem_cons.1 hb with rfl | hb
    · exact hab
    · obtain ⟨i, hi, rfl⟩ := List.mem_iff_getElem.1 hb
      rw [List.getElem_drop]
      have hi' : pos l n + i < l.length := by simp at hi; omega
      have := pos_gt (l := l) (n := n) (Nat.le_add_right _ i) hi'
      omega
theorem sortL_sorted_aux : ∀ (l acc : List Int), acc.Pairwise (· ≤ ·) → (l.foldl ins acc).Pairwise (· ≤ ·)
  | [], _, h => h
  | x :: l, acc, h => by rw [List.foldl_cons]; exact sortL_sorted_aux l _ (ins_sorted h x)
theorem sortL_sorted (l : List Int) : (sortL l).Pairwise (· ≤ ·) := sortL_sorted_aux l [] List.Pairwise.nil
theorem sortL_length (l : List Int) : (sortL l).length = l.length := (sortL_perm l).length_eq
/-- The greatest number of a list, as a loop finds it. -/
def maxL : List Int → Int
  | [] => 0
  | x :: l => l.foldl (fun m v => if v > m then v else m) x
def minL : List Int → Int
  | [] => 0
  | x :: l => l.foldl (fun m v => if v < m then v else m) x
theorem maxF_ge : ∀ (l : List Int) (x : Int), x ≤ l.foldl (fun m v => if v > m then v else m) x ∧ (∀ y ∈ l, y ≤ l.foldl (fun m v => if v > m then v else m) x) ∧ (l.foldl (fun m v => if v > m then v else m) x = x ∨ l.foldl (fun m v => if v > m then v else m) x ∈ l)
  | [], x => by simp
  | a :: l, x => by
    rw [List.foldl_cons]
    obtain ⟨h1, h2, h3⟩ := maxF_ge l (if a > x then a else x)
    have hax : a ≤ (if a > x then a else x) ∧ x ≤ (if a > x then a else x) := by split <;> omega
    refine ⟨Int.le_trans hax.2 h1, ?_, ?_⟩
    · intro y hy
      rcases List.mem_cons.1 hy with rfl | hy
      · exact Int.le_trans hax.1 h1
      · exact h2 y hy
    · rcases h3 with h3 | h3
      · rw [h3]
        split
        · exact .inr (List.mem_cons_self ..)
        · exact .inl rfl
      · exact .inr (List.mem_cons_of_mem _ h3)
theorem minF_le : ∀ (l : List Int) (x : Int), l.foldl (fun m v => if v < m then v else m) x ≤ x ∧ (∀ y ∈ l, l.foldl (fun m v => if v < m then v else m) x ≤ y) ∧ (l.foldl (fun m v => if v < m then v else m) x = x ∨ l.foldl (fun m v => if v < m then v else m) x ∈ l)
  | [], x => by simp
  | a :: l, x => by
    rw [List.foldl_cons]
    obtain ⟨h1, h2, h3⟩ := minF_le l (if a < x then a else x)
    have hax : (if a < x then a else x) ≤ a ∧ (if a < x then a else x) ≤ x := by split <;> omega
    refine ⟨Int.le_trans h1 hax.2, ?_, ?_⟩
    · intro y hy
      rcases List.mem_cons.1 hy with rfl | hy
      · exact Int.le_trans h1 hax.1
      · exact h2 y hy
    · rcases h3 with h3 | h3
      · rw [h3]
        split
        · exact .inr (List.mem_cons_self ..)
        · exact .inl rfl
      · exact .inr (List.mem_cons_of_mem _ h3)
theorem maxL_spec {l : List Int} (h : l ≠ []) : maxL l ∈ l ∧ ∀ y ∈ l, y ≤ maxL l := by
  cases l with
  | nil => exact absurd rfl h
  | cons x l =>
    obtain ⟨h1, h2, h3⟩ := maxF_ge l x
    refine ⟨?_, fun y hy => ?_⟩
    · rcases h3 with h3 | h3
      · exact List.mem_cons.2 (.inl h3)
      · exact List.mem_cons_of_mem _ h3
    · rcases List.mem_cons.1 hy with rfl | hy
      · exact h1
      · exact h2 y hy
theorem minL_spec {l : List Int} (h : l ≠ []) : minL l ∈ l ∧ ∀ y ∈ l, minL l ≤ y := by
  cases l with
  | nil => exact absurd rfl h
  | cons x l =>
    obtain ⟨h1, h2, h3⟩ := minF_le l x
    refine ⟨?_, fun y hy => ?_⟩
    · rcases h3 with h3 | h3
      · exact List.mem_cons.2 (.inl h3)
      · exact List.mem_cons_of_mem _ h3
    · rcases List.mem_cons.1 hy with rfl | hy
      · exact h1
      · exact h2 y hy
theorem sortL_last {l : List Int} (h : 0 < l.length) : (sortL l)[l.length - 1]'(by rw [sortL_length]; omega) = maxL l := by
  have hl : l ≠ [] := by intro e; subst e; simp at h
  obtain ⟨h1, h2⟩ := maxL_spec hl
  have hm : (sortL l)[l.length - 1]'(by rw [sortL_length]; omega) ∈ l := (sortL_perm l).mem_iff.1 (List.getElem_mem _)
  have hx := (sortL_perm l).mem_iff.2 h1
  obtain ⟨i, hi, hx⟩ := List.mem_iff_getElem.1 hx
  have hi' := hi
  rw [sortL_length] at hi'
  have a := h2 _ hm
  by_cases e : i = l.length - 1
  · subst e; omega
  · have b := List.pairwise_iff_getElem.1 (sortL_sorted l) i (l.length - 1) hi (by rw [sortL_length]; omega) (by omega)
    omega
theorem sortL_first {l : List Int} (h : 0 < l.length) : (sortL l)[0]'(by rw [sortL_length]; omega) = minL l := by
  have hl : l ≠ [] := by intro e; subst e; simp at h
  obtain ⟨h1, h2⟩ := minL_spec hl
  have hm : (sortL l)[0]'(by rw [sortL_length]; omega) ∈ l := (sortL_perm l).mem_iff.1 (List.getElem_mem _)
  have hx := (sortL_perm l).mem_iff.2 h1
  obtain ⟨i, hi, hx⟩ := List.mem_iff_getElem.1 hx
  have hi' := hi
  rw [sortL_length] at hi'
  have a := h2 _ hm
  by_cases e : i = 0
  · subst e; omega
  · have b := List.pairwise_iff_getElem.1 (sortL_sorted l) 0 i (by rw [sortL_length]; omega) hi (by omega)
    omega
theorem perm_sum {l m : List Int} (h : l.Perm m) : l.sum = m.sum := by
  induction h with
  | nil => rfl
  | cons x _ ih => simp [ih]
  | swap x y l => simp only [List.sum_cons]; omega
  | trans _ _ a b => exact a.trans b
theorem sortL_sum (l : List Int) : (sortL l).sum = l.sum := perm_sum (sortL_perm l)
theorem sortL_count (l : List Int) (p : Int → Bool) : (sortL l).countP p = l.countP p := (sortL_perm l).countP_eq p
theorem sum_bound {l : List Int} (h : l.all (fun x => decide (-9000 ≤ x) && decide (x ≤ 9000)) = true) : -9000 * (l.length : Int) ≤ l.sum ∧ l.sum ≤ 9000 * (l.length : Int) := by
  induction l with
  | nil => simp
  | cons x l ih =>
    simp only [List.all_cons, Bool.and_eq_true, decide_eq_true_eq] at h
    have := ih h.2
    simp only [List.sum_cons, List.length_cons, Int.natCast_add, Int.natCast_one]
    omega
def rowL (c : Int → Int → Int) (v u0 : Int) (d : Nat) : List Int := ((List.range d).map fun (i : Nat) => c (u0 + i) v).filter fun x => x != -9999
def rowsL (c : Int → Int → Int) (v0 u0 : Int) (m d : Nat) : List Int := (List.range m).flatMap fun (j : Nat) => rowL c (v0 + j) u0 d
theorem rowL_zero (c : Int → Int → Int) (v u0 : Int) : rowL c v u0 0 = [] := rfl
theorem rowL_miss {c : Int → Int → Int} {v u0 : Int} {d : Nat} (h : c (u0 + d) v = -9999) : rowL c v u0 (d + 1) = rowL c v u0 d := by
  simp [rowL, List.range_succ, h]
theorem rowL_more {c : Int → Int → Int} {v u0 : Int} {d : Nat} (h : ¬ c (u0 + d) v = -9999) : rowL c v u0 (d + 1) = rowL c v u0 d ++ [c (u0 + d) v] := by
  simp [rowL, List.range_succ, h]
theorem rowsL_zero (c : Int → Int → Int) (v0 u0 : Int) (d : Nat) : rowsL c v0 u0 0 d = [] := rfl
theorem rowsL_next (c : Int → Int → Int) (v0 u0 : Int) (m d : Nat) : rowsL c v0 u0 (m + 1) d = rowsL c v0 u0 m d ++ rowL c (v0 + m) u0 d := by
  simp [rowsL, List.range_succ]
theorem rowL_length (c : Int → Int → Int) (v u0 : Int) (d : Nat) : (rowL c v u0 d).length ≤ d := by
  have := List.length_filter_le (fun x => x != -9999) ((List.range d).map fun (i : Nat) => c (u0 + i) v)
  simpa [rowL] using this
theorem rowsL_length (c : Int → Int → Int) (v0 u0 : Int) (m d : Nat) : (rowsL c v0 u0 m d).length ≤ m * d := by
  induction m with
  | zero => simp [rowsL_zero]
  | succ m ih =>
    rw [rowsL_next, List.length_append, Nat.succ_mul]
    have := rowL_length c (v0 + m) u0 d
    omega
theorem sortL_append (l m : List Int) : sortL (l ++ m) = m.foldl ins (sortL l) := by simp [sortL, List.foldl_append]
theorem sortL_snoc (l : List Int) (n : Int) : sortL (l ++ [n]) = ins (sortL l) n := by simp [sortL, List.foldl_append]
theorem rowL_mem {c : Int → Int → Int} {v u0 : Int} {d : Nat} {x : Int} (h : x ∈ rowL c v u0 d) : x ≠ -9999 ∧ ∃ i : Nat, i < d ∧ x = c (u0 + i) v := by
  simp only [rowL, List.mem_filter, List.mem_map, List.mem_range] at h
  obtain ⟨⟨i, hi, rfl⟩, h2⟩ := h
  exact ⟨by simpa using h2, i, hi, rfl⟩
theorem rowsL_mem {c : Int → Int → Int} {v0 u0 : Int} {m d : Nat} {x : Int} (h : x ∈ rowsL c v0 u0 m d) : x ≠ -9999 ∧ ∃ j i : Nat, j < m ∧ i < d ∧ x = c (u0 + i) (v0 + j) := by
  simp only [rowsL, List.mem_flatMap, List.mem_range] at h
  obtain ⟨j, hj, h⟩ := h
  obtain ⟨h1, i, hi, h2⟩ := rowL_mem h
  exact ⟨h1, j, i, hj, hi, h2⟩
/-- The values of a neighborhood: from where, how many. -/
def lowE (y r : Int) : Int := if y - r < 0 then 0 else y - r
def topE (h y r : Int) : Int := if h - 1 < y + r then h - 1 else y + r
def nbL (c : Int → Int → Int) (w h x y r : Int) : List Int := rowsL c (lowE y r) (lowE x r) (topE h y r - lowE y r + 1).toNat (topE w x r - lowE x r + 1).toNat
theorem edge_facts {h y r : Int} (hy : 0 ≤ y) (hy' : y < h) (hr : 0 ≤ r) : 0 ≤ lowE y r ∧ lowE y r ≤ y ∧ y ≤ topE h y r ∧ topE h y r < h ∧ (if r < y then y - r else 0) = lowE y r ∧ (if y + r < h - 1 then y + r else h - 1) = topE h y r := by
  unfold lowE topE
  refine ⟨?_, ?_, ?_, ?_, ?_, ?_⟩ <;> (try split) <;> (try split) <;> omega
theorem edge_facts' (y r : Int) : (if y < r then 0 else y - r) = lowE y r := by
  unfold lowE
  split <;> split <;> omega

end Go.Proofs.Ytemkckldfmpplaa.Eng
