/- The pure statement of FieldRange: spec and impl find the same range. No conditions. -/
import Derived.Test.YtngbdlkcpkkeoaaPFnExactFieldRangex4
namespace Go.Proofs.Ytngbdlkcpkkeoaa.Pure
open Go.RowKit Go.Proofs.Ytngbdlkcpkkeoaa.PFnExactFieldRange Go.Proofs.YtngbdlkcpkkeoaaW.PrintWords Go.Proofs.YtngbdlkcpkkeoaaW.PrintLast
set_option linter.unusedVariables false
set_option linter.unusedSimpArgs false
theorem wrap_in (c : Int) (h1 : -9223372036854775808 ≤ c) (h2 : c ≤ 9223372036854775807) : wrap64 c = c := by unfold wrap64; omega
theorem rd_at (l : List Int) (i : Nat) (h : i < l.length) : rd l (i : Int) = l[i] := by
  unfold rd
  rw [Int.toNat_natCast, List.getD_eq_getElem?_getD, List.getElem?_eq_getElem h]; rfl
theorem drop_at {α : Type} (l : List α) (i : Nat) (h : i < l.length) : l.drop i = l[i] :: l.drop (i + 1) := List.drop_eq_getElem_cons h
theorem maxLen_le {n : Nat} (h : n ≤ maxLen) : n ≤ 9223372036854775807 := h
theorem forall_cons {α : Type} {p : α → Prop} [DecidablePred p] (x : α) (l : List α) : decide (∀ y ∈ x :: l, p y) = (decide (p x) && decide (∀ y ∈ l, p y)) := by
  rw [Bool.eq_iff_iff]; simp
theorem nat_add (i : Nat) (h : i + 1 ≤ 9223372036854775807) : wrap64 ((i : Int) + 1) = ((i + 1 : Nat) : Int) := by rw [wrap_in _ (by omega) (by omega)]; omega
theorem ite_same {α : Type} {p q : Prop} [Decidable p] [Decidable q] (h : p ↔ q) (x y : α) : (if p then x else y) = (if q then x else y) := by
  by_cases hp : p
  · rw [if_pos hp, if_pos (h.1 hp)]
  · rw [if_neg hp, if_neg (fun z => hp (h.2 z))]
/-- What a cell may be. -/
def cellP (x : Int) : Prop := x = -9999 ∨ (-9000 ≤ x ∧ x ≤ 9000)
instance : DecidablePred cellP := fun _ => inferInstanceAs (Decidable (_ ∨ _))
/-- When a field is valid. -/
def goodP (a b : Int) (l : List Int) : Prop := (1 ≤ a ∧ a ≤ 8) ∧ (1 ≤ b ∧ b ≤ 8) ∧ (l.length : Int) = a * b ∧ ∀ x ∈ l, cellP x
instance (a b : Int) (l : List Int) : Decidable (goodP a b l) := inferInstanceAs (Decidable (_ ∧ _))
theorem mul_small {a b : Int} (ha : 1 ≤ a ∧ a ≤ 8) (hb : 1 ≤ b ∧ b ≤ 8) : 1 ≤ a * b ∧ a * b ≤ 64 := by
  have : a = 1 ∨ a = 2 ∨ a = 3 ∨ a = 4 ∨ a = 5 ∨ a = 6 ∨ a = 7 ∨ a = 8 := by omega
  rcases this with rfl | rfl | rfl | rfl | rfl | rfl | rfl | rfl <;> omega
theorem l1In_some (x a b : Int) : spec_l1In.f x a b = some (decide (a ≤ x ∧ x ≤ b)) := by
  unfold spec_l1In.f
  by_cases h : x ≥ a
  · rw [if_pos h]; simp [show a ≤ x from h]
  · rw [if_neg h]; simp [show ¬ a ≤ x from h]
theorem within_some (x a b : Int) : impl_within.f x a b = some (decide (a ≤ x ∧ x ≤ b)) := l1In_some x a b
theorem l2Value_some (x : Int) : spec_l2Value.f x = some (decide (cellP x)) := by
  unfold spec_l2Value.f cellP
  by_cases h : x = -9999
  · rw [if_pos h]; simp [h]
  · rw [if_neg h, l1In_some]; simp [h]
theorem isCell_some (x : Int) : impl_isCell.f x = some (decide (cellP x)) := l2Value_some x
theorem l2Shape_some (a b : Int) : spec_l2Shape.f a b = some (decide ((1 ≤ a ∧ a ≤ 8) ∧ (1 ≤ b ∧ b ≤ 8))) := by
  unfold spec_l2Shape.f
  rw [l1In_some, l1In_some]
  by_cases h : 1 ≤ a ∧ a ≤ 8 <;> simp [h]
theorem l2Good_loop (a b : Int) (l : List Int) (hl : l.length ≤ maxLen) (d : Nat) : ∀ k i : Nat, i + d = l.length → d < k → spec_l2Good.l0 k i a b l = some (decide (∀ x ∈ l.drop i, cellP x)) := by
  have hl' := maxLen_le hl
  induction d with
  | zero =>
    intro k i hi hk
    obtain ⟨k, rfl⟩ : ∃ m, k = m + 1 := ⟨k - 1, by omega⟩
    simp only [spec_l2Good.l0]
    rw [if_neg (by omega), List.drop_eq_nil_of_le (by omega)]; simp
  | succ d ih =>
    intro k i hi hk
    obtain ⟨k, rfl⟩ : ∃ m, k = m + 1 := ⟨k - 1, by omega⟩
    simp only [spec_l2Good.l0]
    rw [if_pos (by omega), if_pos (by omega), rd_at l i (by omega), l2Value_some, drop_at l i (by omega), forall_cons, Option.bind_some, nat_add i (by omega)]
    by_cases h : cellP l[i]
    · rw [decide_eq_true h, if_pos rfl, ih k (i + 1) (by omega) (by omega), Bool.true_and]
    · rw [decide_eq_false h, if_neg (by simp), Bool.false_and]
theorem l2Good_some (a b : Int) (l : List Int) (hl : l.length ≤ maxLen) (k : Nat) (hk : l.length + 2 ≤ k) : spec_l2Good.f k a b l = some (decide (goodP a b l)) := by
  obtain ⟨k, rfl⟩ : ∃ m, k = m + 1 := ⟨k - 1, by omega⟩
  unfold spec_l2Good.f
  rw [l2Shape_some, Option.bind_some]
  simp only [spec_l2Good.j0, if_true]
  by_cases h : (1 ≤ a ∧ a ≤ 8) ∧ (1 ≤ b ∧ b ≤ 8)
  · have hm := mul_small h.1 h.2
    rw [decide_eq_true h, if_pos rfl, wrap_in _ (by omega) (by omega)]
    by_cases h2 : (l.length : Int) = a * b
    · rw [show ((l.length : Int) != a * b) = false by simpa using h2, if_neg (by simp)]
      have := l2Good_loop a b l hl l.length k 0 (by omega) (by omega)
      rw [show ((0 : Nat) : Int) = 0 from rfl] at this
      rw [this]
      congr 1
      rw [decide_eq_decide]
      exact ⟨fun z => ⟨h.1, h.2, h2, z⟩, fun z => z.2.2.2⟩
    · rw [show ((l.length : Int) != a * b) = true by simpa using h2, if_pos rfl, decide_eq_false (fun z : goodP a b l => h2 z.2.2.1)]
  · rw [decide_eq_false h, if_neg (by simp), decide_eq_false (fun z : goodP a b l => h ⟨z.1, z.2.1⟩)]
section
theorem index_loop [Fn71] (p : Int → Bool) (l : List Int) (hl : l.length ≤ maxLen) (hp : ∀ k x, Fn71.f k x = some (p x)) (d : Nat) : ∀ k i : Nat, i + d = l.length → d < k →
    ∃ r, slices_IndexFunc_int_int.l0 k l (l.length : Int) i = some r ∧ decide (r ≥ 0) = (l.drop i).any p := by
  have hl' := maxLen_le hl
  induction d with
  | zero =>
    intro k i hi hk
    obtain ⟨k, rfl⟩ : ∃ m, k = m + 1 := ⟨k - 1, by omega⟩
    refine ⟨-1, ?_, ?_⟩
    · simp only [slices_IndexFunc_int_int.l0]
      rw [if_neg (by omega)]
    · rw [List.drop_eq_nil_of_le (by omega)]; rfl
  | succ d ih =>
    intro k i hi hk
    obtain ⟨k, rfl⟩ : ∃ m, k = m + 1 := ⟨k - 1, by omega⟩
    simp only [slices_IndexFunc_int_int.l0]
    rw [if_pos (by omega), if_pos (by omega), if_pos (by omega), rd_at l i (by omega), hp, drop_at l i (by omega), Option.bind_some, nat_add i (by omega)]
    cases h : p l[i] with
    | true => exact ⟨i, by rw [if_pos rfl], by simp only [List.any_cons, h, Bool.true_or]; exact decide_eq_true (by omega)⟩
    | false =>
      obtain ⟨r, hr, hd⟩ := ih k (i + 1) (by omega) (by omega)
      exact ⟨r, by rw [if_neg (by simp)]; exact hr, by rw [hd]; simp only [List.any_cons, h, Bool.false_or]⟩
end
theorem IsValid_some (a b : Int) (l : List Int) (hl : l.length ≤ maxLen) (k : Nat) (hk : l.length + 2 ≤ k) : impl_IsValidField.f k a b l = some (decide (goodP a b l)) := by
  unfold impl_IsValidField.f
  rw [within_some, within_some]
  simp only [Option.bind_some]
  by_cases ha : 1 ≤ a ∧ a ≤ 8
  · rw [decide_eq_true ha, if_pos rfl]
    by_cases hb : 1 ≤ b ∧ b ≤ 8
    · have hm := mul_small ha hb
      rw [decide_eq_true hb, if_pos rfl, wrap_in _ (by omega) (by omega)]
      by_cases h2 : (l.length : Int) = a * b
      · rw [if_pos h2]
        unfold slices_ContainsFunc_int_int_at_impl_IsValidField_1.f slices_ContainsFunc_int_int.f slices_IndexFunc_int_int.f
        obtain ⟨r, hr, hd⟩ := @index_loop fn_impl_IsValidField_1 (fun x => !(decide (cellP x))) l hl (fun _ x => by show impl_IsValidField_1.f x = _; unfold impl_IsValidField_1.f; rw [isCell_some]; rfl) l.length k 0 (by omega) (by omega)
        rw [show ((0 : Nat) : Int) = 0 from rfl] at hr
        rw [hr]
        simp only [Option.bind_some, hd, List.drop_zero]
        congr 1
        rw [Bool.eq_iff_iff, decide_eq_true_iff]
        simp only [List.any_eq, Bool.not_eq_true', decide_eq_false_iff_not, decide_eq_true_eq, not_exists, not_and, Classical.not_not, Bool.not_eq_eq_eq_not, Bool.not_true]
        exact ⟨fun z => ⟨ha, hb, h2, z⟩, fun z => z.2.2.2⟩
      · rw [if_neg h2, decide_eq_false (fun z : goodP a b l => h2 z.2.2.1)]
    · rw [decide_eq_false hb, if_neg (by simp), decide_eq_false (fun z : goodP a b l => hb z.2.1)]
  · rw [decide_eq_false ha, if_neg (by simp), decide_eq_false (fun z : goodP a b l => ha z.1)]
theorem szInt_some (l : List Int) (hl : l.length ≤ maxLen) (n : Int) (h0 : 0 ≤ n) (h1 : n ≤ 1048576) : laws_szIntS.f l n = some (if n < l.length then -1 else n - l.length) := by
  have hl' := maxLen_le hl
  unfold laws_szIntS.f
  rw [wrap_in _ (by omega) (by omega)]
  by_cases h : n < l.length
  · rw [if_pos (by omega), if_pos h]
  · rw [if_neg (by omega), if_neg h]
theorem szField_some (a b : Int) (l : List Int) (hl : l.length ≤ maxLen) (n : Int) (h0 : 0 ≤ n) (h1 : n ≤ 1048576) : laws_szField.f a b l n = some (if n < l.length then -1 else n - l.length) := by
  unfold laws_szField.f
  rw [szInt_some l hl n h0 h1, Option.bind_some]
  by_cases h : n < l.length
  · rw [if_pos h, if_pos (by omega)]
  · rw [if_neg h, if_neg (by omega)]
theorem toInt_loop (l : List Int) (hl : l.length ≤ maxLen) (d : Nat) : ∀ (k i : Nat) (o : List Int), i + d = l.length → d < k → o.length = l.length → o.take i = l.take i → laws_toIntS.l0 k l o i = some l := by
  have hl' := maxLen_le hl
  induction d with
  | zero =>
    intro k i o hi hk ho ht
    obtain ⟨k, rfl⟩ : ∃ m, k = m + 1 := ⟨k - 1, by omega⟩
    simp only [laws_toIntS.l0]
    rw [if_neg (by omega), ← List.take_of_length_le (l := o) (i := i) (by omega), ht, List.take_of_length_le (by omega)]
  | succ d ih =>
    intro k i o hi hk ho ht
    obtain ⟨k, rfl⟩ : ∃ m, k = m + 1 := ⟨k - 1, by omega⟩
    simp only [laws_toIntS.l0]
    rw [if_pos (by omega), if_pos (by omega), if_pos (by omega), rd_at l i (by omega), nat_add i (by omega), Int.toNat_natCast]
    refine ih k (i + 1) _ (by omega) (by omega) (by simpa using ho) ?_
    rw [List.take_succ_eq_append_getElem (by simpa [ho] using (by omega : i < l.length)), List.take_succ_eq_append_getElem (by omega), List.take_set_of_le (by omega), ht]
    simp
theorem toInt_some (l : List Int) (hl : l.length ≤ 1048576) (k : Nat) (hk : l.length + 2 ≤ k) : laws_toIntS.f k l = some l := by
  unfold laws_toIntS.f
  rw [if_pos (by omega), if_pos (by omega)]
  exact toInt_loop l (by unfold maxLen; omega) l.length k 0 _ (by omega) (by omega) (by simp) rfl
theorem toField_some (a b : Int) (l : List Int) (hl : l.length ≤ 1048576) (k : Nat) (hk : l.length + 2 ≤ k) : laws_toField.f k a b l = some (a, b, l) := by
  unfold laws_toField.f
  rw [toInt_some l hl k hk]; rfl
theorem eqInt_loop (l m : List Int) (hl : l.length ≤ maxLen) (hm : l.length = m.length) (d : Nat) : ∀ (k i : Nat), i + d = l.length → d < k → laws_eqIntS.l0 k l m i = some (decide (l.drop i = m.drop i)) := by
  have hl' := maxLen_le hl
  induction d with
  | zero =>
    intro k i hi hk
    obtain ⟨k, rfl⟩ : ∃ m, k = m + 1 := ⟨k - 1, by omega⟩
    simp only [laws_eqIntS.l0]
    rw [if_neg (by omega), List.drop_eq_nil_of_le (by omega), List.drop_eq_nil_of_le (by omega)]; simp
  | succ d ih =>
    intro k i hi hk
    obtain ⟨k, rfl⟩ : ∃ m, k = m + 1 := ⟨k - 1, by omega⟩
    simp only [laws_eqIntS.l0]
    rw [if_pos (by omega), if_pos (by omega), if_pos (by omega), rd_at l i (by omega), rd_at m i (by omega), nat_add i (by omega), drop_at l i (by omega), drop_at m i (by omega)]
    by_cases h : l[i] = m[i]
    · rw [if_pos h, ih k (i + 1) (by omega) (by omega), h]; congr 1; rw [decide_eq_decide]; exact ⟨fun z => by rw [z], fun z => by injection z⟩
    · rw [if_neg h]; congr 1; symm; apply decide_eq_false; intro z; injection z with z _; exact h z
theorem eqInt_some (l m : List Int) (hl : l.length ≤ maxLen) (k : Nat) (hk : l.length + 2 ≤ k) : laws_eqIntS.f k l m = some (decide (l = m)) := by
  unfold laws_eqIntS.f
  by_cases h : l.length = m.length
  · rw [if_pos (by omega)]
    have := eqInt_loop l m hl h l.length k 0 (by omega) (by omega)
    simpa using this
  · rw [if_neg (by omega)]
    congr 1; symm; apply decide_eq_false
    rintro rfl; exact h rfl
theorem eqField_same (a b : Int) (l : List Int) (hl : l.length ≤ maxLen) (k : Nat) (hk : l.length + 2 ≤ k) : laws_eqField.f k a b l a b l = some true := by
  unfold laws_eqField.f
  rw [if_pos rfl, if_pos rfl, eqInt_some l l hl k hk]; simp
theorem good_len {a b : Int} {l : List Int} (h : goodP a b l) : 1 ≤ l.length ∧ l.length ≤ 64 := by
  have := mul_small h.1 h.2.1
  have := h.2.2.1
  omega
theorem vo_index (l : List Int) (hl : l.length ≤ maxLen) (d : Nat) : ∀ k i : Nat, i + d = l.length → d < k → (l.take i).filter vo_p = l.take i →
    ∃ r, @slices_IndexFunc_int_int.l0 vo_fn k l (l.length : Int) i = some r ∧ ((r = -1 ∧ l.filter vo_p = l) ∨ ∃ n : Nat, r = n ∧ n < l.length ∧ (l.take (n + 1)).filter vo_p = l.take n) := by
  have hl' := maxLen_le hl
  induction d with
  | zero =>
    intro k i hi hk hv
    obtain ⟨k, rfl⟩ : ∃ m, k = m + 1 := ⟨k - 1, by omega⟩
    refine ⟨-1, ?_, Or.inl ⟨rfl, ?_⟩⟩
    · simp only [slices_IndexFunc_int_int.l0]
      rw [if_neg (by omega)]
    · rw [List.take_of_length_le (by omega)] at hv; exact hv
  | succ d ih =>
    intro k i hi hk hv
    obtain ⟨k, rfl⟩ : ∃ m, k = m + 1 := ⟨k - 1, by omega⟩
    have hp : ∀ k x, @Fn71.f vo_fn k x = some (!vo_p x) := fun k x => by
      show impl_valuesOf_1.f x = _
      unfold impl_valuesOf_1.f vo_p
      simp [bne]
    have hf : (l.take (i + 1)).filter vo_p = l.take i ++ [l[i]].filter vo_p := by
      rw [List.take_succ_eq_append_getElem (by omega), List.filter_append, hv]
    simp only [slices_IndexFunc_int_int.l0]
    rw [if_pos (by omega), if_pos (by omega), if_pos (by omega), rd_at l i (by omega), hp, Option.bind_some, nat_add i (by omega)]
    cases h : vo_p l[i] with
    | false =>
      refine ⟨i, by simp, Or.inr ⟨i, rfl, by omega, ?_⟩⟩
      rw [hf]; simp [h]
    | true =>
      obtain ⟨r, hr, hd⟩ := ih k (i + 1) (by omega) (by omega) (by rw [hf, List.take_succ_eq_append_getElem (by omega)]; simp [h])
      exact ⟨r, by simpa using hr, hd⟩
theorem valuesOf_some (a b : Int) (l : List Int) (hl : l.length ≤ 1048576) (k : Nat) (hk : l.length + 2 ≤ k) : impl_valuesOf.f k a b l = some (l.filter vo_p) := by
  obtain ⟨r, hr, hd⟩ := vo_index l (by unfold maxLen; omega) l.length k 0 (by omega) (by omega) rfl
  unfold impl_valuesOf.f slices_Clone_int_int.f slices_IndexFunc_int_int.f
  rw [if_pos (by omega), Option.bind_some]
  rw [show ((0 : Nat) : Int) = 0 from rfl] at hr
  rw [hr, Option.bind_some]
  rcases hd with ⟨rfl, h⟩ | ⟨n, rfl, hn, h⟩
  · rw [if_pos rfl, h]
  · rw [if_neg (by omega), if_pos ⟨by omega, by omega, by rw [Int.toNat_natCast]; exact h⟩]
/-- The range of what is there, as the reference finds it. -/
def rr : Int → Int → Bool → List Int → Int × Int × Bool
  | lo, hi, kn, [] => (lo, hi, kn)
  | lo, hi, kn, x :: l => if x = -9999 then rr lo hi kn l else rr (if kn = true then (if x < lo then x else lo) else x) (if kn = true then (if x > hi then x else hi) else x) true l
def fmin (a : Int) : List Int → Int
  | [] => a
  | x :: l => fmin (mn a x) l
def fmax (a : Int) : List Int → Int
  | [] => a
  | x :: l => fmax (mx a x) l
theorem rr_filter : ∀ (l : List Int) (lo hi : Int) (kn : Bool), rr lo hi kn (l.filter vo_p) = rr lo hi kn l
  | [], _, _, _ => rfl
  | x :: l, lo, hi, kn => by
    by_cases h : x = -9999
    · have hp : vo_p x = false := by unfold vo_p; simp [h]
      rw [List.filter_cons_of_neg (by simp [hp]), rr_filter l, rr, if_pos h]
    · have hp : vo_p x = true := by unfold vo_p; simp [h]
      rw [List.filter_cons_of_pos hp, rr, rr, if_neg h, if_neg h, rr_filter l]
theorem rr_true : ∀ (m : List Int) (lo hi : Int), (∀ x ∈ m, x ≠ -9999) → rr lo hi true m = (fmin lo m, fmax hi m, true)
  | [], _, _, _ => rfl
  | x :: m, lo, hi, h => by
    rw [rr, if_neg (h x List.mem_cons_self), if_pos rfl, if_pos rfl, fmin, fmax, rr_true m _ _ (fun y hy => h y (List.mem_cons_of_mem _ hy))]
    have e1 : (if x < lo then x else lo) = mn lo x := by unfold mn; repeat' split
                                                         all_goals omega
    have e2 : (if x > hi then x else hi) = mx hi x := by unfold mx; repeat' split
                                                         all_goals omega
    rw [e1, e2]
theorem spec_loop (a b : Int) (l : List Int) (hl : l.length ≤ 64) (d : Nat) : ∀ (k i : Nat) (lo hi : Int) (kn : Bool), i + d = l.length → 2 * d < k → spec_FieldRange.l0 k lo hi kn i a b l = some (rr lo hi kn (l.drop i)) := by
  induction d with
  | zero =>
    intro k i lo hi kn hi' hk
    obtain ⟨k, rfl⟩ : ∃ m, k = m + 1 := ⟨k - 1, by omega⟩
    simp only [spec_FieldRange.l0]
    rw [if_neg (by omega), List.drop_eq_nil_of_le (by omega)]; rfl
  | succ d ih =>
    intro k i lo hi kn hi' hk
    obtain ⟨k, rfl⟩ : ∃ m, k = m + 2 := ⟨k - 2, by omega⟩
    simp only [spec_FieldRange.l0]
    have e1 : (i : Int) < (l.length : Int) := by omega
    have e2 : (0 : Int) ≤ (i : Int) := by omega
    simp only [e1, e2, if_true, rd_at l i (by omega)]
    rw [drop_at l i (by omega), rr]
    by_cases hm : l[i] = -9999
    · rw [if_pos hm, if_pos hm, nat_add i (by omega)]
      exact ih (k + 1) (i + 1) lo hi kn (by omega) (by omega)
    · rw [if_neg hm, if_neg hm]
      simp only [spec_FieldRange.j1, nat_add i (by omega)]
      cases kn with
      | false =>
        simp only [Bool.false_eq_true, if_false, if_true]
        exact ih k (i + 1) _ _ true (by omega) (by omega)
      | true =>
        simp only [if_true]
        by_cases h1 : l[i] < lo
        · simp only [decide_eq_true h1, if_true, h1]
          by_cases h2 : l[i] > hi
          · simp only [h2, if_true]
            exact ih k (i + 1) _ _ true (by omega) (by omega)
          · simp only [h2, if_false]
            exact ih k (i + 1) _ _ true (by omega) (by omega)
        · simp only [decide_eq_false h1, Bool.false_eq_true, if_false, h1]
          by_cases h2 : l[i] > hi
          · simp only [h2, if_true]
            exact ih k (i + 1) _ _ true (by omega) (by omega)
          · simp only [h2, if_false]
            exact ih k (i + 1) _ _ true (by omega) (by omega)
theorem min_loop (m : List Int) (hl : m.length ≤ 64) (d : Nat) : ∀ (k i : Nat) (s : Int), i + d = m.length → d < k → slices_Min_int_int.l0 k m s i = some (fmin s (m.drop i)) := by
  induction d with
  | zero =>
    intro k i s hi hk
    obtain ⟨k, rfl⟩ : ∃ m, k = m + 1 := ⟨k - 1, by omega⟩
    simp only [slices_Min_int_int.l0]
    rw [if_neg (by omega), List.drop_eq_nil_of_le (by omega)]; rfl
  | succ d ih =>
    intro k i s hi hk
    obtain ⟨k, rfl⟩ : ∃ m, k = m + 1 := ⟨k - 1, by omega⟩
    simp only [slices_Min_int_int.l0]
    rw [if_pos (by omega), if_pos (by omega), rd_at m i (by omega), nat_add i (by omega), drop_at m i (by omega), fmin]
    exact ih k (i + 1) _ (by omega) (by omega)
theorem max_loop (m : List Int) (hl : m.length ≤ 64) (d : Nat) : ∀ (k i : Nat) (s : Int), i + d = m.length → d < k → slices_Max_int_int.l0 k m s i = some (fmax s (m.drop i)) := by
  induction d with
  | zero =>
    intro k i s hi hk
    obtain ⟨k, rfl⟩ : ∃ m, k = m + 1 := ⟨k - 1, by omega⟩
    simp only [slices_Max_int_int.l0]
    rw [if_neg (by omega), List.drop_eq_nil_of_le (by omega)]; rfl
  | succ d ih =>
    intro k i s hi hk
    obtain ⟨k, rfl⟩ : ∃ m, k = m + 1 := ⟨k - 1, by omega⟩
    simp only [slices_Max_int_int.l0]
    rw [if_pos (by omega), if_pos (by omega), rd_at m i (by omega), nat_add i (by omega), drop_at m i (by omega), fmax]
    exact ih k (i + 1) _ (by omega) (by omega)
theorem min_some (v : Int) (m : List Int) (hl : (v :: m).length ≤ 64) (k : Nat) (hk : 66 ≤ k) : slices_Min_int_int.f k (v :: m) = some (fmin v m) := by
  have h := min_loop (v :: m) hl m.length k 1 v (by rw [List.length_cons]; omega) (by rw [List.length_cons] at hl; omega)
  unfold slices_Min_int_int.f
  rw [if_neg (by rw [List.length_cons]; omega), if_pos (by rw [List.length_cons]; omega), show rd (v :: m) 0 = v from rd_at (v :: m) 0 (by simp)]
  exact h
theorem max_some (v : Int) (m : List Int) (hl : (v :: m).length ≤ 64) (k : Nat) (hk : 66 ≤ k) : slices_Max_int_int.f k (v :: m) = some (fmax v m) := by
  have h := max_loop (v :: m) hl m.length k 1 v (by rw [List.length_cons]; omega) (by rw [List.length_cons] at hl; omega)
  unfold slices_Max_int_int.f
  rw [if_neg (by rw [List.length_cons]; omega), if_pos (by rw [List.length_cons]; omega), show rd (v :: m) 0 = v from rd_at (v :: m) 0 (by simp)]
  exact h
theorem both_same (a b : Int) (l : List Int) (hl : l.length ≤ maxLen) : ∃ p q z, ∀ k, l.length + 150 ≤ k → spec_FieldRange.f k a b l = some (p, q, z) ∧ impl_FieldRange.f k a b l = some (p, q, z) := by
  by_cases hg : goodP a b l
  · have hn := good_len hg
    refine ⟨(rr 0 0 false l).1, (rr 0 0 false l).2.1, (rr 0 0 false l).2.2, fun k hk => ?_⟩
    unfold spec_FieldRange.f impl_FieldRange.f
    rw [l2Good_some a b l hl k (by omega), IsValid_some a b l hl k (by omega)]
    have hs := spec_loop a b l hn.2 l.length k 0 0 0 false (by omega) (by omega)
    rw [List.drop_zero, show ((0 : Nat) : Int) = 0 from rfl] at hs
    simp only [Option.bind_some, decide_eq_true hg, if_true, hs, valuesOf_some a b l (by omega) k (by omega), true_and]
    have hf := rr_filter l 0 0 false
    have hle := List.length_filter_le vo_p l
    have hno : ∀ x ∈ l.filter vo_p, x ≠ -9999 := fun x hx => by
      have := (List.mem_filter.1 hx).2
      unfold vo_p at this; simpa using this
    generalize l.filter vo_p = m at hf hle hno
    cases m with
    | nil =>
      rw [if_pos (by rfl), ← hf]; rfl
    | cons v m =>
      rw [if_neg (by rw [List.length_cons]; omega), min_some v m (by omega) k (by omega), max_some v m (by omega) k (by omega), ← hf, rr, if_neg (hno v List.mem_cons_self)]
      simp only [Bool.false_eq_true, if_false, Option.bind_some]
      rw [rr_true m v v (fun y hy => hno y (List.mem_cons_of_mem _ hy))]
  · refine ⟨0, 0, false, fun k hk => ?_⟩
    unfold spec_FieldRange.f impl_FieldRange.f
    rw [l2Good_some a b l hl k (by omega), IsValid_some a b l hl k (by omega)]
    simp only [Option.bind_some, decide_eq_false hg, Bool.false_eq_true, if_false, and_self]
theorem lt_zero_false (n : Int) (h : 0 ≤ n) : (n < 0) = False := by simp; omega
theorem FnExactFieldRange : laws_FnExactFieldRange.Pure := by
  intro a0 b0 l0 _ _ hw0
  have hl0 := hw0.1
  refine ⟨l0.length + 170, ?_⟩
  unfold laws_FnExactFieldRange.f
  rw [szField_some a0 b0 l0 hl0 _ (by omega) (by omega), Option.bind_some]
  by_cases hs0 : (1048576 : Int) < l0.length
  · rw [if_pos hs0, if_pos (by omega)]
  rw [if_neg hs0, if_neg (by omega)]
  obtain ⟨p, q, z, hb⟩ := both_same a0 b0 l0 hl0
  have b1 : ∀ k, l0.length + 160 ≤ k → spec_FieldRange.f k a0 b0 l0 = some (p, q, z) := fun k hk => (hb k (by omega)).1
  have b2 : ∀ k, l0.length + 160 ≤ k → impl_FieldRange.f k a0 b0 l0 = some (p, q, z) := fun k hk => (hb k (by omega)).2
  have t_0 : ∀ k, l0.length + 160 ≤ k → laws_toField.f k a0 b0 l0 = some (a0, b0, l0) := fun k hk => toField_some a0 b0 l0 (by omega) k (by omega)
  have e_0 : ∀ k, l0.length + 160 ≤ k → laws_eqField.f k a0 b0 l0 a0 b0 l0 = some true := fun k hk => eqField_same a0 b0 l0 hl0 k (by omega)
  simp (disch := omega) only [b1, b2, t_0, e_0, Option.bind_some, ↓reduceIte, bne_self_eq_false, Bool.false_eq_true, lt_zero_false, ne_eq, not_true, not_false_eq_true, if_true, if_false, decide_true, decide_false, Bool.or_self, Bool.or_false]
  simp (disch := omega) only [laws_FnExactFieldRange.j0, b1, b2, t_0, e_0, Option.bind_some, ↓reduceIte, bne_self_eq_false, Bool.false_eq_true, lt_zero_false, ne_eq, not_true, not_false_eq_true, if_true, if_false, decide_true, decide_false, Bool.or_self, Bool.or_false]

end Go.Proofs.Ytngbdlkcpkkeoaa.Pure
