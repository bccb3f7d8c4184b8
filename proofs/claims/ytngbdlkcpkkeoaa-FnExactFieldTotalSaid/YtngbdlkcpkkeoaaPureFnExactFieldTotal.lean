/- The pure statement of FieldTotal: spec and impl add up the same. No conditions. -/
import Derived.Test.YtngbdlkcpkkeoaaPFnExactFieldTotalx3
namespace Go.Proofs.Ytngbdlkcpkkeoaa.Pure
open Go.RowKit Go.Proofs.Ytngbdlkcpkkeoaa.PFnExactFieldTotal Go.Proofs.YtngbdlkcpkkeoaaW.PrintWords Go.Proofs.YtngbdlkcpkkeoaaW.PrintLast
set_option linter.unusedVariables false
set_option linter.unusedSimpArgs false
theorem wrap_in (c : Int) (h1 : -9223372036854775808 ≤ c) (h2 : c ≤ 9223372036854775807) : wrap64 c = c := by unfold wrap64; omega
theorem rd_at (l : List Int) (i : Nat) (h : i < l.length) : rd l (i : Int) = l[i] := by
  unfold rd
  rw [Int.toNat_natCast, List.getD_eq_getElem?_getD, List.getElem?_eq_getElem h]; rfl
theorem drop_at {α : Type} (l : List α) (i : Nat) (h : i < l.length) : l.drop i = l[i] :: l.drop (i + 1) := List.drop_eq_getElem_cons h
theorem maxLen_le {n : Nat} (h : n ≤ maxLen) : n ≤ 9223372036854775807 := h
theorem forall_cons {α : Type} {p : α → Prop} [DecidablePred p] (x : α) (l : List α) : decide (∀ y ∈ x :: l, p y) = (decide (p x) && decide (∀ y ∈ l, p y)) := by
  rw [Bool.eq_iff_iff]; simp
theorem nat_add (i : Nat) (h : i + 1 ≤ 9223372036854775807) : wrap64 ((i : Int) + 1) = ((i + 1 : Nat) : Int) := by rw [wrap_in _ (by omega) (by omega)]; omega
theorem ite_same {α : Type} {p q : Prop} [Decidable p] [Decidable q] (h : p ↔ q) (x y : α) : (if p then x else y) = (if q then x else y) := by
  by_cases hp : p
  · rw [if_pos hp, if_pos (h.1 hp)]
  · rw [if_neg hp, if_neg (fun z => hp (h.2 z))]
/-- What a cell may be. -/
def cellP (x : Int) : Prop := x = -9999 ∨ (-9000 ≤ x ∧ x ≤ 9000)
instance : DecidablePred cellP := fun _ => inferInstanceAs (Decidable (_ ∨ _))
/-- When a field is valid. -/
def goodP (a b : Int) (l : List Int) : Prop := (1 ≤ a ∧ a ≤ 8) ∧ (1 ≤ b ∧ b ≤ 8) ∧ (l.length : Int) = a * b ∧ ∀ x ∈ l, cellP x
instance (a b : Int) (l : List Int) : Decidable (goodP a b l) := inferInstanceAs (Decidable (_ ∧ _))
theorem mul_small {a b : Int} (ha : 1 ≤ a ∧ a ≤ 8) (hb : 1 ≤ b ∧ b ≤ 8) : 1 ≤ a * b ∧ a * b ≤ 64 := by
  have : a = 1 ∨ a = 2 ∨ a = 3 ∨ a = 4 ∨ a = 5 ∨ a = 6 ∨ a = 7 ∨ a = 8 := by omega
  rcases this with rfl | rfl | rfl | rfl | rfl | rfl | rfl | rfl <;> omega
theorem l1In_some (x a b : Int) : spec_l1In.f x a b = some (decide (a ≤ x ∧ x ≤ b)) := by
  unfold spec_l1In.f
  by_cases h : x ≥ a
  · rw [if_pos h]; simp [show a ≤ x from h]
  · rw [if_neg h]; simp [show ¬ a ≤ x from h]
theorem within_some (x a b : Int) : impl_within.f x a b = some (decide (a ≤ x ∧ x ≤ b)) := l1In_some x a b
theorem l2Value_some (x : Int) : spec_l2Value.f x = some (decide (cellP x)) := by
  unfold spec_l2Value.f cellP
  by_cases h : x = -9999
  · rw [if_pos h]; simp [h]
  · rw [if_neg h, l1In_some]; simp [h]
theorem isCell_some (x : Int) : impl_isCell.f x = some (decide (cellP x)) := l2Value_some x
theorem l2Shape_some (a b : Int) : spec_l2Shape.f a b = some (decide ((1 ≤ a ∧ a ≤ 8) ∧ (1 ≤ b ∧ b ≤ 8))) := by
  unfold spec_l2Shape.f
  rw [l1In_some, l1In_some]
  by_cases h : 1 ≤ a ∧ a ≤ 8 <;> simp [h]
theorem l2Good_loop (a b : Int) (l : List Int) (hl : l.length ≤ maxLen) (d : Nat) : ∀ k i : Nat, i + d = l.length → d < k → spec_l2Good.l0 k i a b l = some (decide (∀ x ∈ l.drop i, cellP x)) := by
  have hl' := maxLen_le hl
  induction d with
  | zero =>
    intro k i hi hk
    obtain ⟨k, rfl⟩ : ∃ m, k = m + 1 := ⟨k - 1, by omega⟩
    simp only [spec_l2Good.l0]
    rw [if_neg (by omega), List.drop_eq_nil_of_le (by omega)]; simp
  | succ d ih =>
    intro k i hi hk
    obtain ⟨k, rfl⟩ : ∃ m, k = m + 1 := ⟨k - 1, by omega⟩
    simp only [spec_l2Good.l0]
    rw [if_pos (by omega), if_pos (by omega), rd_at l i (by omega), l2Value_some, drop_at l i (by omega), forall_cons, Option.bind_some, nat_add i (by omega)]
    by_cases h : cellP l[i]
    · rw [decide_eq_true h, if_pos rfl, ih k (i + 1) (by omega) (by omega), Bool.true_and]
    · rw [decide_eq_false h, if_neg (by simp), Bool.false_and]
theorem l2Good_some (a b : Int) (l : List Int) (hl : l.length ≤ maxLen) (k : Nat) (hk : l.length + 2 ≤ k) : spec_l2Good.f k a b l = some (decide (goodP a b l)) := by
  obtain ⟨k, rfl⟩ : ∃ m, k = m + 1 := ⟨k - 1, by omega⟩
  unfold spec_l2Good.f
  rw [l2Shape_some, Option.bind_some]
  simp only [spec_l2Good.j0, if_true]
  by_cases h : (1 ≤ a ∧ a ≤ 8) ∧ (1 ≤ b ∧ b ≤ 8)
  · have hm := mul_small h.1 h.2
    rw [decide_eq_true h, if_pos rfl, wrap_in _ (by omega) (by omega)]
    by_cases h2 : (l.length : Int) = a * b
    · rw [show ((l.length : Int) != a * b) = false by simpa using h2, if_neg (by simp)]
      have := l2Good_loop a b l hl l.length k 0 (by omega) (by omega)
      rw [show ((0 : Nat) : Int) = 0 from rfl] at this
      rw [this]
      congr 1
      rw [decide_eq_decide]
      exact ⟨fun z => ⟨h.1, h.2, h2, z⟩, fun z => z.2.2.2⟩
    · rw [show ((l.length : Int) != a * b) = true by simpa using h2, if_pos rfl, decide_eq_false (fun z : goodP a b l => h2 z.2.2.1)]
  · rw [decide_eq_false h, if_neg (by simp), decide_eq_false (fun z : goodP a b l => h ⟨z.1, z.2.1⟩)]
section
theorem index_loop [Fn71] (p : Int → Bool) (l : List Int) (hl : l.length ≤ maxLen) (hp : ∀ k x, Fn71.f k x = some (p x)) (d : Nat) : ∀ k i : Nat, i + d = l.length → d < k →
    ∃ r, slices_IndexFunc_int_int.l0 k l (l.length : Int) i = some r ∧ decide (r ≥ 0) = (l.drop i).any p := by
  have hl' := maxLen_le hl
  induction d with
  | zero =>
    intro k i hi hk
    obtain ⟨k, rfl⟩ : ∃ m, k = m + 1 := ⟨k - 1, by omega⟩
    refine ⟨-1, ?_, ?_⟩
    · simp only [slices_IndexFunc_int_int.l0]
      rw [if_neg (by omega)]
    · rw [List.drop_eq_nil_of_le (by omega)]; rfl
  | succ d ih =>
    intro k i hi hk
    obtain ⟨k, rfl⟩ : ∃ m, k = m + 1 := ⟨k - 1, by omega⟩
    simp only [slices_IndexFunc_int_int.l0]
    rw [if_pos (by omega), if_pos (by omega), if_pos (by omega), rd_at l i (by omega), hp, drop_at l i (by omega), Option.bind_some, nat_add i (by omega)]
    cases h : p l[i] with
    | true => exact ⟨i, by rw [if_pos rfl], by simp only [List.any_cons, h, Bool.true_or]; exact decide_eq_true (by omega)⟩
    | false =>
      obtain ⟨r, hr, hd⟩ := ih k (i + 1) (by omega) (by omega)
      exact ⟨r, by rw [if_neg (by simp)]; exact hr, by rw [hd]; simp only [List.any_cons, h, Bool.false_or]⟩
end
theorem IsValid_some (a b : Int) (l : List Int) (hl : l.length ≤ maxLen) (k : Nat) (hk : l.length + 2 ≤ k) : impl_IsValidField.f k a b l = some (decide (goodP a b l)) := by
  unfold impl_IsValidField.f
  rw [within_some, within_some]
  simp only [Option.bind_some]
  by_cases ha : 1 ≤ a ∧ a ≤ 8
  · rw [decide_eq_true ha, if_pos rfl]
    by_cases hb : 1 ≤ b ∧ b ≤ 8
    · have hm := mul_small ha hb
      rw [decide_eq_true hb, if_pos rfl, wrap_in _ (by omega) (by omega)]
      by_cases h2 : (l.length : Int) = a * b
      · rw [if_pos h2]
        unfold slices_ContainsFunc_int_int_at_impl_IsValidField_1.f slices_ContainsFunc_int_int.f slices_IndexFunc_int_int.f
        obtain ⟨r, hr, hd⟩ := @index_loop fn_impl_IsValidField_1 (fun x => !(decide (cellP x))) l hl (fun _ x => by show impl_IsValidField_1.f x = _; unfold impl_IsValidField_1.f; rw [isCell_some]; rfl) l.length k 0 (by omega) (by omega)
        rw [show ((0 : Nat) : Int) = 0 from rfl] at hr
        rw [hr]
        simp only [Option.bind_some, hd, List.drop_zero]
        congr 1
        rw [Bool.eq_iff_iff, decide_eq_true_iff]
        simp only [List.any_eq, Bool.not_eq_true', decide_eq_false_iff_not, decide_eq_true_eq, not_exists, not_and, Classical.not_not, Bool.not_eq_eq_eq_not, Bool.not_true]
        exact ⟨fun z => ⟨ha, hb, h2, z⟩, fun z => z.2.2.2⟩
      · rw [if_neg h2, decide_eq_false (fun z : goodP a b l => h2 z.2.2.1)]
    · rw [decide_eq_false hb, if_neg (by simp), decide_eq_false (fun z : goodP a b l => hb z.2.1)]
  · rw [decide_eq_false ha, if_neg (by simp), decide_eq_false (fun z : goodP a b l => ha z.1)]
theorem szInt_some (l : List Int) (hl : l.length ≤ maxLen) (n : Int) (h0 : 0 ≤ n) (h1 : n ≤ 1048576) : laws_szIntS.f l n = some (if n < l.length then -1 else n - l.length) := by
  have hl' := maxLen_le hl
  unfold laws_szIntS.f
  rw [wrap_in _ (by omega) (by omega)]
  by_cases h : n < l.length
  · rw [if_pos (by omega), if_pos h]
  · rw [if_neg (by omega), if_neg h]
theorem szField_some (a b : Int) (l : List Int) (hl : l.length ≤ maxLen) (n : Int) (h0 : 0 ≤ n) (h1 : n ≤ 1048576) : laws_szField.f a b l n = some (if n < l.length then -1 else n - l.length) := by
  unfold laws_szField.f
  rw [szInt_some l hl n h0 h1, Option.bind_some]
  by_cases h : n < l.length
  · rw [if_pos h, if_pos (by omega)]
  · rw [if_neg h, if_neg (by omega)]
theorem toInt_loop (l : List Int) (hl : l.length ≤ maxLen) (d : Nat) : ∀ (k i : Nat) (o : List Int), i + d = l.length → d < k → o.length = l.length → o.take i = l.take i → laws_toIntS.l0 k l o i = some l := by
  have hl' := maxLen_le hl
  induction d with
  | zero =>
    intro k i o hi hk ho ht
    obtain ⟨k, rfl⟩ : ∃ m, k = m + 1 := ⟨k - 1, by omega⟩
    simp only [laws_toIntS.l0]
    rw [if_neg (by omega), ← List.take_of_length_le (l := o) (i := i) (by omega), ht, List.take_of_length_le (by omega)]
  | succ d ih =>
    intro k i o hi hk ho ht
    obtain ⟨k, rfl⟩ : ∃ m, k = m + 1 := ⟨k - 1, by omega⟩
    simp only [laws_toIntS.l0]
    rw [if_pos (by omega), if_pos (by omega), if_pos (by omega), rd_at l i (by omega), nat_add i (by omega), Int.toNat_natCast]
    refine ih k (i + 1) _ (by omega) (by omega) (by simpa using ho) ?_
    rw [List.take_succ_eq_append_getElem (by simpa [ho] using (by omega : i < l.length)), List.take_succ_eq_append_getElem (by omega), List.take_set_of_le (by omega), ht]
    simp
theorem toInt_some (l : List Int) (hl : l.length ≤ 1048576) (k : Nat) (hk : l.length + 2 ≤ k) : laws_toIntS.f k l = some l := by
  unfold laws_toIntS.f
  rw [if_pos (by omega), if_pos (by omega)]
  exact toInt_loop l (by unfold maxLen; omega) l.length k 0 _ (by omega) (by omega) (by simp) rfl
theorem toField_some (a b : Int) (l : List Int) (hl : l.length ≤ 1048576) (k : Nat) (hk : l.length + 2 ≤ k) : laws_toField.f k a b l = some (a, b, l) := by
  unfold laws_toField.f
  rw [toInt_some l hl k hk]; rfl
theorem eqInt_loop (l m : List Int) (hl : l.length ≤ maxLen) (hm : l.length = m.length) (d : Nat) : ∀ (k i : Nat), i + d = l.length → d < k → laws_eqIntS.l0 k l m i = some (decide (l.drop i = m.drop i)) := by
  have hl' := maxLen_le hl
  induction d with
  | zero =>
    intro k i hi hk
    obtain ⟨k, rfl⟩ : ∃ m, k = m + 1 := ⟨k - 1, by omega⟩
    simp only [laws_eqIntS.l0]
    rw [if_neg (by omega), List.drop_eq_nil_of_le (by omega), List.drop_eq_nil_of_le (by omega)]; simp
  | succ d ih =>
    intro k i hi hk
    obtain ⟨k, rfl⟩ : ∃ m, k = m + 1 := ⟨k - 1, by omega⟩
    simp only [laws_eqIntS.l0]
    rw [if_pos (by omega), if_pos (by omega), if_pos (by omega), rd_at l i (by omega), rd_at m i (by omega), nat_add i (by omega), drop_at l i (by omega), drop_at m i (by omega)]
    by_cases h : l[i] = m[i]
    · rw [if_pos h, ih k (i + 1) (by omega) (by omega), h]; congr 1; rw [decide_eq_decide]; exact ⟨fun z => by rw [z], fun z => by injection z⟩
    · rw [if_neg h]; congr 1; symm; apply decide_eq_false; intro z; injection z with z _; exact h z
theorem eqInt_some (l m : List Int) (hl : l.length ≤ maxLen) (k : Nat) (hk : l.length + 2 ≤ k) : laws_eqIntS.f k l m = some (decide (l = m)) := by
  unfold laws_eqIntS.f
  by_cases h : l.length = m.length
  · rw [if_pos (by omega)]
    have := eqInt_loop l m hl h l.length k 0 (by omega) (by omega)
    simpa using this
  · rw [if_neg (by omega)]
    congr 1; symm; apply decide_eq_false
    rintro rfl; exact h rfl
theorem eqField_same (a b : Int) (l : List Int) (hl : l.length ≤ maxLen) (k : Nat) (hk : l.length + 2 ≤ k) : laws_eqField.f k a b l a b l = some true := by
  unfold laws_eqField.f
  rw [if_pos rfl, if_pos rfl, eqInt_some l l hl k hk]; simp
theorem good_len {a b : Int} {l : List Int} (h : goodP a b l) : 1 ≤ l.length ∧ l.length ≤ 64 := by
  have := mul_small h.1 h.2.1
  have := h.2.2.1
  omega
theorem vo_index (l : List Int) (hl : l.length ≤ maxLen) (d : Nat) : ∀ k i : Nat, i + d = l.length → d < k → (l.take i).filter vo_p = l.take i →
    ∃ r, @slices_IndexFunc_int_int.l0 vo_fn k l (l.length : Int) i = some r ∧ ((r = -1 ∧ l.filter vo_p = l) ∨ ∃ n : Nat, r = n ∧ n < l.length ∧ (l.take (n + 1)).filter vo_p = l.take n) := by
  have hl' := maxLen_le hl
  induction d with
  | zero =>
    intro k i hi hk hv
    obtain ⟨k, rfl⟩ : ∃ m, k = m + 1 := ⟨k - 1, by omega⟩
    refine ⟨-1, ?_, Or.inl ⟨rfl, ?_⟩⟩
    · simp only [slices_IndexFunc_int_int.l0]
      rw [if_neg (by omega)]
    · rw [List.take_of_length_le (by omega)] at hv; exact hv
  | succ d ih =>
    intro k i hi hk hv
    obtain ⟨k, rfl⟩ : ∃ m, k = m + 1 := ⟨k - 1, by omega⟩
    have hp : ∀ k x, @Fn71.f vo_fn k x = some (!vo_p x) := fun k x => by
      show impl_valuesOf_1.f x = _
      unfold impl_valuesOf_1.f vo_p
      simp [bne]
    have hf : (l.take (i + 1)).filter vo_p = l.take i ++ [l[i]].filter vo_p := by
      rw [List.take_succ_eq_append_getElem (by omega), List.filter_append, hv]
    simp only [slices_IndexFunc_int_int.l0]
    rw [if_pos (by omega), if_pos (by omega), if_pos (by omega), rd_at l i (by omega), hp, Option.bind_some, nat_add i (by omega)]
    cases h : vo_p l[i] with
    | false =>
      refine ⟨i, by simp, Or.inr ⟨i, rfl, by omega, ?_⟩⟩
      rw [hf]; simp [h]
    | true =>
      obtain ⟨r, hr, hd⟩ := ih k (i + 1) (by omega) (by omega) (by rw [hf, List.take_succ_eq_append_getElem (by omega)]; simp [h])
      exact ⟨r, by simpa using hr, hd⟩
theorem valuesOf_some (a b : Int) (l : List Int) (hl : l.length ≤ 1048576) (k : Nat) (hk : l.length + 2 ≤ k) : impl_valuesOf.f k a b l = some (l.filter vo_p) := by
  obtain ⟨r, hr, hd⟩ := vo_index l (by unfold maxLen; omega) l.length k 0 (by omega) (by omega) rfl
  unfold impl_valuesOf.f slices_Clone_int_int.f slices_IndexFunc_int_int.f
  rw [if_pos (by omega), Option.bind_some]
  rw [show ((0 : Nat) : Int) = 0 from rfl] at hr
  rw [hr, Option.bind_some]
  rcases hd with ⟨rfl, h⟩ | ⟨n, rfl, hn, h⟩
  · rw [if_pos rfl, h]
  · rw [if_neg (by omega), if_pos ⟨by omega, by omega, by rw [Int.toNat_natCast]; exact h⟩]
/-- The sum of the values. -/
def tot : List Int → Int
  | [] => 0
  | x :: l => (if x = -9999 then 0 else x) + tot l
theorem tot_bound : ∀ l : List Int, (∀ x ∈ l, cellP x) → -9000 * (l.length : Int) ≤ tot l ∧ tot l ≤ 9000 * (l.length : Int)
  | [], _ => by simp [tot]
  | x :: l, h => by
    have ih := tot_bound l (fun y hy => h y (List.mem_cons_of_mem _ hy))
    have hx := h x List.mem_cons_self
    unfold cellP at hx
    rw [tot, List.length_cons]
    split <;> omega
theorem l2Total_loop (a b : Int) (l : List Int) (hl : l.length ≤ 64) (hc : ∀ x ∈ l, cellP x) (d : Nat) : ∀ (k i : Nat) (s : Int), i + d = l.length → d < k → -9000 * (i : Int) ≤ s ∧ s ≤ 9000 * (i : Int) → spec_l2Total.l0 k s i a b l = some (s + tot (l.drop i)) := by
  induction d with
  | zero =>
    intro k i s hi hk hs
    obtain ⟨k, rfl⟩ : ∃ m, k = m + 1 := ⟨k - 1, by omega⟩
    simp only [spec_l2Total.l0]
    rw [if_neg (by omega), List.drop_eq_nil_of_le (by omega)]; simp [tot]
  | succ d ih =>
    intro k i s hi hk hs
    obtain ⟨k, rfl⟩ : ∃ m, k = m + 1 := ⟨k - 1, by omega⟩
    simp only [spec_l2Total.l0]
    have e1 : (i : Int) < (l.length : Int) := by omega
    have e2 : (0 : Int) ≤ (i : Int) := by omega
    have hx : cellP l[i] := hc _ (List.getElem_mem _)
    unfold cellP at hx
    simp only [e1, e2, if_true, rd_at l i (by omega), nat_add i (by omega)]
    rw [drop_at l i (by omega), tot]
    by_cases hm : l[i] = -9999
    · rw [if_pos hm, if_pos hm, ih k (i + 1) s (by omega) (by omega) (by omega)]
      congr 1; omega
    · rw [if_neg hm, if_neg hm, wrap_in (s + l[i]) (by omega) (by omega), ih k (i + 1) _ (by omega) (by omega) (by omega)]
      congr 1; omega
theorem l2Total_some (a b : Int) (l : List Int) (hg : goodP a b l) (k : Nat) (hk : 66 ≤ k) : spec_l2Total.f k a b l = some (tot l) := by
  have hn := good_len hg
  unfold spec_l2Total.f
  have := l2Total_loop a b l hn.2 hg.2.2.2 l.length k 0 0 (by omega) (by omega) (by omega)
  simpa using this
theorem sumOf_loop (m : List Int) (hl : m.length ≤ 64) (hc : ∀ x ∈ m, -9000 ≤ x ∧ x ≤ 9000) (d : Nat) : ∀ (k i : Nat) (s : Int), i + d = m.length → d < k → -9000 * (i : Int) ≤ s ∧ s ≤ 9000 * (i : Int) → impl_sumOf.l0 k s m (m.length : Int) i = some (s + tot (m.drop i)) := by
  induction d with
  | zero =>
    intro k i s hi hk hs
    obtain ⟨k, rfl⟩ : ∃ m, k = m + 1 := ⟨k - 1, by omega⟩
    simp only [impl_sumOf.l0]
    rw [if_neg (by omega), List.drop_eq_nil_of_le (by omega)]; simp [tot]
  | succ d ih =>
    intro k i s hi hk hs
    obtain ⟨k, rfl⟩ : ∃ m, k = m + 1 := ⟨k - 1, by omega⟩
    simp only [impl_sumOf.l0]
    have e1 : (i : Int) < (m.length : Int) := by omega
    have e2 : (0 : Int) ≤ (i : Int) := by omega
    have hx := hc _ (List.getElem_mem (l := m) (n := i) (by omega))
    simp only [e1, e2, if_true, rd_at m i (by omega), nat_add i (by omega)]
    rw [drop_at m i (by omega), tot, if_neg (by omega), wrap_in (s + m[i]) (by omega) (by omega), ih k (i + 1) _ (by omega) (by omega) (by omega)]
    congr 1; omega
theorem tot_filter : ∀ l : List Int, tot (l.filter vo_p) = tot l
  | [] => rfl
  | x :: l => by
    have ih := tot_filter l
    by_cases h : x = -9999
    · have hp : vo_p x = false := by unfold vo_p; simp [h]
      rw [List.filter_cons_of_neg (by simp [hp]), ih, tot, if_pos h]; omega
    · have hp : vo_p x = true := by unfold vo_p; simp [h]
      rw [List.filter_cons_of_pos hp, tot, tot, ih]
theorem vals_bound {l : List Int} (hc : ∀ x ∈ l, cellP x) : ∀ x ∈ l.filter vo_p, -9000 ≤ x ∧ x ≤ 9000 := by
  intro x hx
  obtain ⟨h1, h2⟩ := List.mem_filter.1 hx
  have := hc x h1
  unfold cellP at this
  unfold vo_p at h2
  have h3 : x ≠ -9999 := by simpa using h2
  omega
theorem sumOf_some {a b : Int} {l : List Int} (hg : goodP a b l) (k : Nat) (hk : 66 ≤ k) : impl_sumOf.f k (l.filter vo_p) = some (tot l) := by
  have hn := good_len hg
  have hle := List.length_filter_le vo_p l
  unfold impl_sumOf.f
  have := sumOf_loop (l.filter vo_p) (by omega) (vals_bound hg.2.2.2) (l.filter vo_p).length k 0 0 (by omega) (by omega) (by omega)
  rw [List.drop_zero, tot_filter] at this
  simpa using this
theorem both_same (a b : Int) (l : List Int) (hl : l.length ≤ maxLen) : ∃ p z, ∀ k, l.length + 80 ≤ k → spec_FieldTotal.f k a b l = some (p, z) ∧ impl_FieldTotal.f k a b l = some (p, z) := by
  by_cases hg : goodP a b l
  · have hn := good_len hg
    refine ⟨tot l, true, fun k hk => ?_⟩
    unfold spec_FieldTotal.f impl_FieldTotal.f
    rw [l2Good_some a b l hl k (by omega), IsValid_some a b l hl k (by omega)]
    simp only [Option.bind_some, decide_eq_true hg, if_true, l2Total_some a b l hg k (by omega), valuesOf_some a b l (by omega) k (by omega), sumOf_some hg k (by omega), and_self]
  · refine ⟨0, false, fun k hk => ?_⟩
    unfold spec_FieldTotal.f impl_FieldTotal.f
    rw [l2Good_some a b l hl k (by omega), IsValid_some a b l hl k (by omega)]
    simp only [Option.bind_some, decide_eq_false hg, Bool.false_eq_true, if_false, and_self]
theorem lt_zero_false (n : Int) (h : 0 ≤ n) : (n < 0) = False := by simp; omega
theorem FnExactFieldTotal : laws_FnExactFieldTotal.Pure := by
  intro a0 b0 l0 _ _ hw0
  have hl0 := hw0.1
  refine ⟨l0.length + 100, ?_⟩
  unfold laws_FnExactFieldTotal.f
  rw [szField_some a0 b0 l0 hl0 _ (by omega) (by omega), Option.bind_some]
  by_cases hs0 : (1048576 : Int) < l0.length
  · rw [if_pos hs0, if_pos (by omega)]
  rw [if_neg hs0, if_neg (by omega)]
  obtain ⟨p, z, hb⟩ := both_same a0 b0 l0 hl0
  have b1 : ∀ k, l0.length + 90 ≤ k → spec_FieldTotal.f k a0 b0 l0 = some (p, z) := fun k hk => (hb k (by omega)).1
  have b2 : ∀ k, l0.length + 90 ≤ k → impl_FieldTotal.f k a0 b0 l0 = some (p, z) := fun k hk => (hb k (by omega)).2
  have t_0 : ∀ k, l0.length + 90 ≤ k → laws_toField.f k a0 b0 l0 = some (a0, b0, l0) := fun k hk => toField_some a0 b0 l0 (by omega) k (by omega)
  have e_0 : ∀ k, l0.length + 90 ≤ k → laws_eqField.f k a0 b0 l0 a0 b0 l0 = some true := fun k hk => eqField_same a0 b0 l0 hl0 k (by omega)
  simp (disch := omega) only [b1, b2, t_0, e_0, Option.bind_some, ↓reduceIte, bne_self_eq_false, Bool.false_eq_true, lt_zero_false, ne_eq, not_true, not_false_eq_true, if_true, if_false, decide_true, decide_false, Bool.or_self, Bool.or_false]
  simp (disch := omega) only [laws_FnExactFieldTotal.j0, b1, b2, t_0, e_0, Option.bind_some, ↓reduceIte, bne_self_eq_false, Bool.false_eq_true, lt_zero_false, ne_eq, not_true, not_false_eq_true, if_true, if_false, decide_true, decide_false, Bool.or_self, Bool.or_false]

end Go.Proofs.Ytngbdlkcpkkeoaa.Pure
