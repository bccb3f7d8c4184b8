/- The pure statement of ScaleField: spec and impl make the same field. No conditions. -/
import Derived.Test.YtmbjhcdmnjhnoaaPFnExactScaleFieldx6
namespace Go.Proofs.Ytmbjhcdmnjhnoaa.Pure
open Go.RowKit Go.Proofs.Ytmbjhcdmnjhnoaa.PFnExactScaleField Go.Proofs.YtmbjhcdmnjhnoaaW.PrintWords Go.Proofs.YtmbjhcdmnjhnoaaW.PrintLast
set_option linter.unusedVariables false
set_option linter.unusedSimpArgs false
theorem wrap_in (c : Int) (h1 : -9223372036854775808 ≤ c) (h2 : c ≤ 9223372036854775807) : wrap64 c = c := by unfold wrap64; omega
theorem rd_at (l : List Int) (i : Nat) (h : i < l.length) : rd l (i : Int) = l[i] := by
  unfold rd
  rw [Int.toNat_natCast, List.getD_eq_getElem?_getD, List.getElem?_eq_getElem h]; rfl
theorem drop_at {α : Type} (l : List α) (i : Nat) (h : i < l.length) : l.drop i = l[i] :: l.drop (i + 1) := List.drop_eq_getElem_cons h
theorem maxLen_le {n : Nat} (h : n ≤ maxLen) : n ≤ 9223372036854775807 := h
theorem forall_cons {α : Type} {p : α → Prop} [DecidablePred p] (x : α) (l : List α) : decide (∀ y ∈ x :: l, p y) = (decide (p x) && decide (∀ y ∈ l, p y)) := by
  rw [Bool.eq_iff_iff]; simp
theorem nat_add (i : Nat) (h : i + 1 ≤ 9223372036854775807) : wrap64 ((i : Int) + 1) = ((i + 1 : Nat) : Int) := by rw [wrap_in _ (by omega) (by omega)]; omega
theorem ite_same {α : Type} {p q : Prop} [Decidable p] [Decidable q] (h : p ↔ q) (x y : α) : (if p then x else y) = (if q then x else y) := by
  by_cases hp : p
  · rw [if_pos hp, if_pos (h.1 hp)]
  · rw [if_neg hp, if_neg (fun z => hp (h.2 z))]
/-- What a cell may be. -/
def cellP (x : Int) : Prop := x = -9999 ∨ (-9000 ≤ x ∧ x ≤ 9000)
instance : DecidablePred cellP := fun _ => inferInstanceAs (Decidable (_ ∨ _))
/-- When a field is valid. -/
def goodP (a b : Int) (l : List Int) : Prop := (1 ≤ a ∧ a ≤ 8) ∧ (1 ≤ b ∧ b ≤ 8) ∧ (l.length : Int) = a * b ∧ ∀ x ∈ l, cellP x
instance (a b : Int) (l : List Int) : Decidable (goodP a b l) := inferInstanceAs (Decidable (_ ∧ _))
theorem mul_small {a b : Int} (ha : 1 ≤ a ∧ a ≤ 8) (hb : 1 ≤ b ∧ b ≤ 8) : 1 ≤ a * b ∧ a * b ≤ 64 := by
  have : a = 1 ∨ a = 2 ∨ a = 3 ∨ a = 4 ∨ a = 5 ∨ a = 6 ∨ a = 7 ∨ a = 8 := by omega
  rcases this with rfl | rfl | rfl | rfl | rfl | rfl | rfl | rfl <;> omega
theorem l1In_some (x a b : Int) : spec_l1In.f x a b = some (decide (a ≤ x ∧ x ≤ b)) := by
  unfold spec_l1In.f
  by_cases h : x ≥ a
  · rw [if_pos h]; simp [show a ≤ x from h]
  · rw [if_neg h]; simp [show ¬ a ≤ x from h]
theorem within_some (x a b : Int) : impl_within.f x a b = some (decide (a ≤ x ∧ x ≤ b)) := l1In_some x a b
theorem l2Value_some (x : Int) : spec_l2Value.f x = some (decide (cellP x)) := by
  unfold spec_l2Value.f cellP
  by_cases h : x = -9999
  · rw [if_pos h]; simp [h]
  · rw [if_neg h, l1In_some]; simp [h]
theorem isCell_some (x : Int) : impl_isCell.f x = some (decide (cellP x)) := l2Value_some x
theorem l2Shape_some (a b : Int) : spec_l2Shape.f a b = some (decide ((1 ≤ a ∧ a ≤ 8) ∧ (1 ≤ b ∧ b ≤ 8))) := by
  unfold spec_l2Shape.f
  rw [l1In_some, l1In_some]
  by_cases h : 1 ≤ a ∧ a ≤ 8 <;> simp [h]
theorem l2Good_loop (a b : Int) (l : List Int) (hl : l.length ≤ maxLen) (d : Nat) : ∀ k i : Nat, i + d = l.length → d < k → spec_l2Good.l0 k i a b l = some (decide (∀ x ∈ l.drop i, cellP x)) := by
  have hl' := maxLen_le hl
  induction d with
  | zero =>
    intro k i hi hk
    obtain ⟨k, rfl⟩ : ∃ m, k = m + 1 := ⟨k - 1, by omega⟩
    simp only [spec_l2Good.l0]
    rw [if_neg (by omega), List.drop_eq_nil_of_le (by omega)]; simp
  | succ d ih =>
    intro k i hi hk
    obtain ⟨k, rfl⟩ : ∃ m, k = m + 1 := ⟨k - 1, by omega⟩
    simp only [spec_l2Good.l0]
    rw [if_pos (by omega), if_pos (by omega), rd_at l i (by omega), l2Value_some, drop_at l i (by omega), forall_cons, Option.bind_some, nat_add i (by omega)]
    by_cases h : cellP l[i]
    · rw [decide_eq_true h, if_pos rfl, ih k (i + 1) (by omega) (by omega), Bool.true_and]
    · rw [decide_eq_false h, if_neg (by simp), Bool.false_and]
theorem l2Good_some (a b : Int) (l : List Int) (hl : l.length ≤ maxLen) (k : Nat) (hk : l.length + 2 ≤ k) : spec_l2Good.f k a b l = some (decide (goodP a b l)) := by
  obtain ⟨k, rfl⟩ : ∃ m, k = m + 1 := ⟨k - 1, by omega⟩
  unfold spec_l2Good.f
  rw [l2Shape_some, Option.bind_some]
  simp only [spec_l2Good.j0, if_true]
  by_cases h : (1 ≤ a ∧ a ≤ 8) ∧ (1 ≤ b ∧ b ≤ 8)
  · have hm := mul_small h.1 h.2
    rw [decide_eq_true h, if_pos rfl, wrap_in _ (by omega) (by omega)]
    by_cases h2 : (l.length : Int) = a * b
    · rw [show ((l.length : Int) != a * b) = false by simpa using h2, if_neg (by simp)]
      have := l2Good_loop a b l hl l.length k 0 (by omega) (by omega)
      rw [show ((0 : Nat) : Int) = 0 from rfl] at this
      rw [this]
      congr 1
      rw [decide_eq_decide]
      exact ⟨fun z => ⟨h.1, h.2, h2, z⟩, fun z => z.2.2.2⟩
    · rw [show ((l.length : Int) != a * b) = true by simpa using h2, if_pos rfl, decide_eq_false (fun z : goodP a b l => h2 z.2.2.1)]
  · rw [decide_eq_false h, if_neg (by simp), decide_eq_false (fun z : goodP a b l => h ⟨z.1, z.2.1⟩)]
section
theorem index_loop [Fn85] (p : Int → Bool) (l : List Int) (hl : l.length ≤ maxLen) (hp : ∀ k x, Fn85.f k x = some (p x)) (d : Nat) : ∀ k i : Nat, i + d = l.length → d < k →
    ∃ r, slices_IndexFunc_int_int.l0 k l (l.length : Int) i = some r ∧ decide (r ≥ 0) = (l.drop i).any p := by
  have hl' := maxLen_le hl
  induction d with
  | zero =>
    intro k i hi hk
    obtain ⟨k, rfl⟩ : ∃ m, k = m + 1 := ⟨k - 1, by omega⟩
    refine ⟨-1, ?_, ?_⟩
    · simp only [slices_IndexFunc_int_int.l0]
      rw [if_neg (by omega)]
    · rw [List.drop_eq_nil_of_le (by omega)]; rfl
  | succ d ih =>
    intro k i hi hk
    obtain ⟨k, rfl⟩ : ∃ m, k = m + 1 := ⟨k - 1, by omega⟩
    simp only [slices_IndexFunc_int_int.l0]
    rw [if_pos (by omega), if_pos (by omega), if_pos (by omega), rd_at l i (by omega), hp, drop_at l i (by omega), Option.bind_some, nat_add i (by omega)]
    cases h : p l[i] with
    | true => exact ⟨i, by rw [if_pos rfl], by simp only [List.any_cons, h, Bool.true_or]; exact decide_eq_true (by omega)⟩
    | false =>
      obtain ⟨r, hr, hd⟩ := ih k (i + 1) (by omega) (by omega)
      exact ⟨r, by rw [if_neg (by simp)]; exact hr, by rw [hd]; simp only [List.any_cons, h, Bool.false_or]⟩
end
theorem IsValid_some (a b : Int) (l : List Int) (hl : l.length ≤ maxLen) (k : Nat) (hk : l.length + 2 ≤ k) : impl_IsValidField.f k a b l = some (decide (goodP a b l)) := by
  unfold impl_IsValidField.f
  rw [within_some, within_some]
  simp only [Option.bind_some]
  by_cases ha : 1 ≤ a ∧ a ≤ 8
  · rw [decide_eq_true ha, if_pos rfl]
    by_cases hb : 1 ≤ b ∧ b ≤ 8
    · have hm := mul_small ha hb
      rw [decide_eq_true hb, if_pos rfl, wrap_in _ (by omega) (by omega)]
      by_cases h2 : (l.length : Int) = a * b
      · rw [if_pos h2]
        unfold slices_ContainsFunc_int_int_at_impl_IsValidField_1.f slices_ContainsFunc_int_int.f slices_IndexFunc_int_int.f
        obtain ⟨r, hr, hd⟩ := @index_loop fn_impl_IsValidField_1 (fun x => !(decide (cellP x))) l hl (fun _ x => by show impl_IsValidField_1.f x = _; unfold impl_IsValidField_1.f; rw [isCell_some]; rfl) l.length k 0 (by omega) (by omega)
        rw [show ((0 : Nat) : Int) = 0 from rfl] at hr
        rw [hr]
        simp only [Option.bind_some, hd, List.drop_zero]
        congr 1
        rw [Bool.eq_iff_iff, decide_eq_true_iff]
        simp only [List.any_eq, Bool.not_eq_true', decide_eq_false_iff_not, decide_eq_true_eq, not_exists, not_and, Classical.not_not, Bool.not_eq_eq_eq_not, Bool.not_true]
        exact ⟨fun z => ⟨ha, hb, h2, z⟩, fun z => z.2.2.2⟩
      · rw [if_neg h2, decide_eq_false (fun z : goodP a b l => h2 z.2.2.1)]
    · rw [decide_eq_false hb, if_neg (by simp), decide_eq_false (fun z : goodP a b l => hb z.2.1)]
  · rw [decide_eq_false ha, if_neg (by simp), decide_eq_false (fun z : goodP a b l => ha z.1)]
theorem szInt_some (l : List Int) (hl : l.length ≤ maxLen) (n : Int) (h0 : 0 ≤ n) (h1 : n ≤ 1048576) : laws_szIntS.f l n = some (if n < l.length then -1 else n - l.length) := by
  have hl' := maxLen_le hl
  unfold laws_szIntS.f
  rw [wrap_in _ (by omega) (by omega)]
  by_cases h : n < l.length
  · rw [if_pos (by omega), if_pos h]
  · rw [if_neg (by omega), if_neg h]
theorem szField_some (a b : Int) (l : List Int) (hl : l.length ≤ maxLen) (n : Int) (h0 : 0 ≤ n) (h1 : n ≤ 1048576) : laws_szField.f a b l n = some (if n < l.length then -1 else n - l.length) := by
  unfold laws_szField.f
  rw [szInt_some l hl n h0 h1, Option.bind_some]
  by_cases h : n < l.length
  · rw [if_pos h, if_pos (by omega)]
  · rw [if_neg h, if_neg (by omega)]
theorem toInt_loop (l : List Int) (hl : l.length ≤ maxLen) (d : Nat) : ∀ (k i : Nat) (o : List Int), i + d = l.length → d < k → o.length = l.length → o.take i = l.take i → laws_toIntS.l0 k l o i = some l := by
  have hl' := maxLen_le hl
  induction d with
  | zero =>
    intro k i o hi hk ho ht
    obtain ⟨k, rfl⟩ : ∃ m, k = m + 1 := ⟨k - 1, by omega⟩
    simp only [laws_toIntS.l0]
    rw [if_neg (by omega), ← List.take_of_length_le (l := o) (i := i) (by omega), ht, List.take_of_length_le (by omega)]
  | succ d ih =>
    intro k i o hi hk ho ht
    obtain ⟨k, rfl⟩ : ∃ m, k = m + 1 := ⟨k - 1, by omega⟩
    simp only [laws_toIntS.l0]
    rw [if_pos (by omega), if_pos (by omega), if_pos (by omega), rd_at l i (by omega), nat_add i (by omega), Int.toNat_natCast]
    refine ih k (i + 1) _ (by omega) (by omega) (by simpa using ho) ?_
    rw [List.take_succ_eq_append_getElem (by simpa [ho] using (by omega : i < l.length)), List.take_succ_eq_append_getElem (by omega), List.take_set_of_le (by omega), ht]
    simp
theorem toInt_some (l : List Int) (hl : l.length ≤ 1048576) (k : Nat) (hk : l.length + 2 ≤ k) : laws_toIntS.f k l = some l := by
  unfold laws_toIntS.f
  rw [if_pos (by omega), if_pos (by omega)]
  exact toInt_loop l (by unfold maxLen; omega) l.length k 0 _ (by omega) (by omega) (by simp) rfl
theorem toField_some (a b : Int) (l : List Int) (hl : l.length ≤ 1048576) (k : Nat) (hk : l.length + 2 ≤ k) : laws_toField.f k a b l = some (a, b, l) := by
  unfold laws_toField.f
  rw [toInt_some l hl k hk]; rfl
theorem eqInt_loop (l m : List Int) (hl : l.length ≤ maxLen) (hm : l.length = m.length) (d : Nat) : ∀ (k i : Nat), i + d = l.length → d < k → laws_eqIntS.l0 k l m i = some (decide (l.drop i = m.drop i)) := by
  have hl' := maxLen_le hl
  induction d with
  | zero =>
    intro k i hi hk
    obtain ⟨k, rfl⟩ : ∃ m, k = m + 1 := ⟨k - 1, by omega⟩
    simp only [laws_eqIntS.l0]
    rw [if_neg (by omega), List.drop_eq_nil_of_le (by omega), List.drop_eq_nil_of_le (by omega)]; simp
  | succ d ih =>
    intro k i hi hk
    obtain ⟨k, rfl⟩ : ∃ m, k = m + 1 := ⟨k - 1, by omega⟩
    simp only [laws_eqIntS.l0]
    rw [if_pos (by omega), if_pos (by omega), if_pos (by omega), rd_at l i (by omega), rd_at m i (by omega), nat_add i (by omega), drop_at l i (by omega), drop_at m i (by omega)]
    by_cases h : l[i] = m[i]
    · rw [if_pos h, ih k (i + 1) (by omega) (by omega), h]; congr 1; rw [decide_eq_decide]; exact ⟨fun z => by rw [z], fun z => by injection z⟩
    · rw [if_neg h]; congr 1; symm; apply decide_eq_false; intro z; injection z with z _; exact h z
theorem eqInt_some (l m : List Int) (hl : l.length ≤ maxLen) (k : Nat) (hk : l.length + 2 ≤ k) : laws_eqIntS.f k l m = some (decide (l = m)) := by
  unfold laws_eqIntS.f
  by_cases h : l.length = m.length
  · rw [if_pos (by omega)]
    have := eqInt_loop l m hl h l.length k 0 (by omega) (by omega)
    simpa using this
  · rw [if_neg (by omega)]
    congr 1; symm; apply decide_eq_false
    rintro rfl; exact h rfl
theorem eqField_same (a b : Int) (l : List Int) (hl : l.length ≤ maxLen) (k : Nat) (hk : l.length + 2 ≤ k) : laws_eqField.f k a b l a b l = some true := by
  unfold laws_eqField.f
  rw [if_pos rfl, if_pos rfl, eqInt_some l l hl k hk]; simp
/-- The marks that the law writes. -/
def imarks : Nat → Int → List Int
  | 0, _ => []
  | n + 1, m => m :: imarks n (m + 1)
theorem imarks_len (n : Nat) : ∀ m, (imarks n m).length = n := by
  induction n with
  | zero => intro m; rfl
  | succ n ih => intro m; simp [imarks, ih]
theorem markInt_loop (d : Nat) : ∀ (k i : Nat) (l : List Int) (m : Int), i + d = l.length → d < k → l.length ≤ 1000000000 → 0 ≤ m → m ≤ 1000000000000000 - d → laws_markIntS.l0 k l m i = some (m + d, l.take i ++ imarks d m) := by
  induction d with
  | zero =>
    intro k i l m hi hk hl h0 h1
    obtain ⟨k, rfl⟩ : ∃ m, k = m + 1 := ⟨k - 1, by omega⟩
    simp only [laws_markIntS.l0]
    rw [if_neg (by omega), List.take_of_length_le (by omega)]
    simp [imarks]
  | succ d ih =>
    intro k i l m hi hk hl h0 h1
    obtain ⟨k, rfl⟩ : ∃ m, k = m + 1 := ⟨k - 1, by omega⟩
    simp only [laws_markIntS.l0]
    rw [if_pos (by omega), if_pos (by omega), Int.toNat_natCast, wrap_in (m + 1) (by omega) (by omega), nat_add i (by omega), ih k (i + 1) _ _ (by rw [List.length_set]; omega) (by omega) (by rw [List.length_set]; omega) (by omega) (by omega)]
    congr 1
    refine Prod.ext (by show _ + _ = _ + _; omega) ?_
    show _ ++ _ = _ ++ _
    rw [List.take_succ_eq_append_getElem (by rw [List.length_set]; omega), imarks]
    simp [List.take_set_of_le]
theorem heldInt_loop (d : Nat) : ∀ (k i : Nat) (l : List Int) (m : Int), i + d = l.length → d < k → l.length ≤ 1000000000 → 0 ≤ m → m ≤ 1000000000000000 - d → l.drop i = imarks d m → laws_heldIntS.l0 k l m i = some (m + d) := by
  induction d with
  | zero =>
    intro k i l m hi hk hl h0 h1 he
    obtain ⟨k, rfl⟩ : ∃ m, k = m + 1 := ⟨k - 1, by omega⟩
    simp only [laws_heldIntS.l0]
    rw [if_neg (by omega)]
    simp
  | succ d ih =>
    intro k i l m hi hk hl h0 h1 he
    obtain ⟨k, rfl⟩ : ∃ m, k = m + 1 := ⟨k - 1, by omega⟩
    rw [drop_at l i (by omega), imarks] at he
    injection he with he1 he2
    simp only [laws_heldIntS.l0]
    rw [if_pos (by omega), if_pos (by omega), rd_at _ i (by omega), he1]
    rw [if_pos rfl, wrap_in (m + 1) (by omega) (by omega), nat_add i (by omega), ih k (i + 1) _ _ (by omega) (by omega) hl (by omega) (by omega) he2]
    congr 1; omega
theorem markInt_some (l : List Int) (hl : l.length ≤ 1000000000) (m : Int) (h0 : 0 ≤ m) (h1 : m ≤ 100000000000) (k : Nat) (hk : l.length < k) : laws_markIntS.f k l m = some (m + l.length, imarks l.length m) := by
  unfold laws_markIntS.f
  have := markInt_loop l.length k 0 l m (by omega) hk hl h0 (by omega)
  simpa using this
theorem heldInt_some (n : Nat) (hn : n ≤ 1000000000) (m : Int) (h0 : 0 ≤ m) (h1 : m ≤ 100000000000) (k : Nat) (hk : n < k) : laws_heldIntS.f k (imarks n m) m = some (m + n) := by
  unfold laws_heldIntS.f
  have hm := imarks_len n m
  exact heldInt_loop n k 0 (imarks n m) m (by omega) hk (by omega) h0 (by omega) rfl
theorem ge_zero (n : Nat) : ((1 + (n : Int)) < 0) = False := by simp; omega
theorem markField_some (a b : Int) (l : List Int) (hl : l.length ≤ 1000000000) (m : Int) (h0 : 0 ≤ m) (h1 : m ≤ 100000000000) (k : Nat) (hk : l.length < k) : laws_markField.f k a b l m = some (m + l.length, imarks l.length m) := by
  unfold laws_markField.f
  rw [markInt_some l hl m h0 h1 k hk]; rfl
theorem heldField_some (a b : Int) (n : Nat) (hn : n ≤ 1000000000) (k : Nat) (hk : n < k) : laws_heldField.f k a b (imarks n 1) 1 = some (1 + (n : Int)) := by
  unfold laws_heldField.f
  rw [heldInt_some n hn 1 (by omega) (by omega) k hk, Option.bind_some]
  rw [if_neg (by omega)]
theorem clone_some (a b : Int) (l : List Int) (hl : l.length ≤ 1048576) : impl_cloneField.f a b l = some (a, b, l) := by
  unfold impl_cloneField.f slices_Clone_int_int.f
  rw [if_pos (by omega)]; rfl
theorem l2Own_some (a b : Int) (l : List Int) (hl : l.length ≤ 1048576) : spec_l2Own.f a b l = some (a, b, l) := by
  unfold spec_l2Own.f spec_l1Own.f
  simp only [Option.bind_some, List.length_nil, List.nil_append]
  rw [if_pos (by omega)]; rfl
theorem good_len {a b : Int} {l : List Int} (h : goodP a b l) : 1 ≤ l.length ∧ l.length ≤ 64 := by
  have := mul_small h.1 h.2.1
  have := h.2.2.1
  omega
theorem upd_len {α : Type} (c : α → α) (l : List α) (i : Nat) (h : i ≤ l.length) : ((l.map c).take i ++ l.drop i).length = l.length := by
  rw [List.length_append, List.length_take, List.length_map, List.length_drop]; omega
theorem upd_step {α : Type} (c : α → α) (l : List α) (i : Nat) (h : i < l.length) : ((l.map c).take i ++ l.drop i).set i (c l[i]) = (l.map c).take (i + 1) ++ l.drop (i + 1) := by
  have e : ((l.map c).take i).length = i := by rw [List.length_take, List.length_map]; omega
  rw [List.drop_eq_getElem_cons h, List.set_append_right _ _ (by omega), e, Nat.sub_self, List.set_cons_zero, List.take_succ_eq_append_getElem (by rw [List.length_map]; exact h)]
  simp
theorem upd_keep {α : Type} (c : α → α) (l : List α) (i : Nat) (h : i < l.length) (hc : c l[i] = l[i]) : (l.map c).take i ++ l.drop i = (l.map c).take (i + 1) ++ l.drop (i + 1) := by
  rw [List.drop_eq_getElem_cons h, List.take_succ_eq_append_getElem (by rw [List.length_map]; exact h)]
  simp [hc]
/-- A cell that is not Missing, changed. -/
def chg (g : Int → Int) (x : Int) : Int := if x = -9999 then x else g x
theorem checked_some (a b : Int) (l : List Int) (hl : l.length ≤ maxLen) (k : Nat) (hk : l.length + 2 ≤ k) : impl_checkedField.f k a b l = some (if goodP a b l then (a, b, l, true) else (0, 0, [], false)) := by
  unfold impl_checkedField.f
  rw [IsValid_some a b l hl k hk, Option.bind_some]
  by_cases h : goodP a b l
  · rw [decide_eq_true h, if_pos rfl, if_pos h]
  · rw [decide_eq_false h, if_neg (by simp), if_neg h]
theorem changed_loop [Fn72] (g : Int → Int) (a b : Int) (l : List Int) (hl : l.length ≤ 64) (hp : ∀ k x, -9000 ≤ x ∧ x ≤ 9000 → Fn72.f k x = some (g x)) (hc : ∀ x ∈ l, cellP x) (d : Nat) : ∀ k i : Nat, i + d = l.length → d + 70 < k →
    impl_changed.l0 k l (l.length : Int) i a b ((l.map (chg g)).take i ++ l.drop i) = some (if goodP a b (l.map (chg g)) then (a, b, l.map (chg g), true) else (0, 0, [], false)) := by
  induction d with
  | zero =>
    intro k i hi hk
    obtain ⟨k, rfl⟩ : ∃ m, k = m + 1 := ⟨k - 1, by omega⟩
    simp only [impl_changed.l0]
    have e1 : List.take i (l.map (chg g)) ++ List.drop i l = l.map (chg g) := by
      rw [List.drop_eq_nil_of_le (by omega), List.append_nil, List.take_of_length_le (by rw [List.length_map]; omega)]
    rw [if_neg (by omega), e1, checked_some _ _ _ (by rw [List.length_map]; unfold maxLen; omega) k (by rw [List.length_map]; omega), Option.bind_some]
  | succ d ih =>
    intro k i hi hk
    obtain ⟨k, rfl⟩ : ∃ m, k = m + 1 := ⟨k - 1, by omega⟩
    simp only [impl_changed.l0]
    have e1 : (i : Int) < (l.length : Int) := by omega
    have e2 : (0 : Int) ≤ (i : Int) := by omega
    have e3 : (i : Int) < ((List.take i (l.map (chg g)) ++ List.drop i l).length : Int) := by rw [upd_len (chg g) l i (by omega)]; exact e1
    have hx : cellP l[i] := hc _ (List.getElem_mem _)
    simp only [e1, e2, if_true, rd_at l i (by omega), nat_add i (by omega)]
    by_cases hm : l[i] = -9999
    · simp only [hm, if_true]
      rw [upd_keep (chg g) l i (by omega) (by unfold chg; rw [if_pos hm])]
      exact ih k (i + 1) (by omega) (by omega)
    · have hb : -9000 ≤ l[i] ∧ l[i] ≤ 9000 := by unfold cellP at hx; omega
      simp only [hm, if_false, hp k _ hb, Option.bind_some, e3, if_true, Int.toNat_natCast]
      rw [show g l[i] = chg g l[i] from by unfold chg; rw [if_neg hm], upd_step (chg g) l i (by omega)]
      exact ih k (i + 1) (by omega) (by omega)
theorem changed_some [Fn72] (g : Int → Int) (a b : Int) (l : List Int) (hl : l.length ≤ maxLen) (hp : ∀ k x, -9000 ≤ x ∧ x ≤ 9000 → Fn72.f k x = some (g x)) (k : Nat) (hk : l.length + 140 ≤ k) :
    impl_changed.f k a b l = some (if goodP a b l ∧ goodP a b (l.map (chg g)) then (a, b, l.map (chg g), true) else (0, 0, [], false)) := by
  unfold impl_changed.f
  rw [IsValid_some a b l hl k (by omega), Option.bind_some]
  by_cases h : goodP a b l
  · have hn := good_len h
    rw [decide_eq_true h, if_pos rfl, clone_some a b l (by omega), Option.bind_some]
    have := changed_loop g a b l hn.2 hp h.2.2.2 l.length k 0 (by omega) (by omega)
    simp only [List.take_zero, List.drop_zero, List.nil_append] at this
    rw [show ((0 : Nat) : Int) = 0 from rfl] at this
    rw [this]
    simp only [h, true_and]
  · rw [decide_eq_false h, if_neg (by simp), if_neg (fun z => h z.1)]
theorem floor_uniq {a b q : Int} (hb : 0 < b) (h1 : q * b ≤ a) (h2 : a < q * b + b) : a / b = q :=
  ((Int.ediv_emod_unique (r := a - b * q) hb).2 ⟨by rw [Int.mul_comm b q]; omega, by rw [Int.mul_comm b q]; omega, by rw [Int.mul_comm b q]; omega⟩).1
theorem ediv_bounds (a : Int) {b : Int} (hb : 0 < b) : (a / b) * b ≤ a ∧ a < (a / b) * b + b := by
  have h1 := Int.emod_add_mul_ediv a b
  have h2 := Int.emod_nonneg a (Int.ne_of_gt hb)
  have h3 := Int.emod_lt_of_pos a hb
  rw [Int.mul_comm b (a / b)] at h1
  omega
theorem mul_low {q b : Int} (hq : q ≤ 0) (hb : 1 ≤ b) : q * b ≤ q := by
  have h := Int.mul_nonneg (a := -q) (b := b - 1) (by omega) (by omega)
  rw [Int.mul_sub, Int.neg_mul, Int.mul_one] at h
  omega
theorem mul_high {q b : Int} (hq : 0 ≤ q) (hb : 1 ≤ b) : q ≤ q * b := by
  have h := Int.mul_nonneg (a := q) (b := b - 1) (by omega) (by omega)
  rw [Int.mul_sub, Int.mul_one] at h
  omega
theorem ediv_small {a b n : Int} (hb : 1 ≤ b) (hn : 0 ≤ n) (h : -n ≤ a ∧ a ≤ n) : -n - 1 ≤ a / b ∧ a / b ≤ n := by
  have hq := ediv_bounds a (b := b) (by omega)
  generalize a / b = q at hq
  have h2 : q * b + b = (q + 1) * b := by rw [Int.add_mul, Int.one_mul]
  constructor
  · by_cases h0 : q + 1 ≤ 0
    · have h4 := mul_low h0 hb
      omega
    · omega
  · by_cases h0 : 0 ≤ q
    · have := mul_high h0 hb
      omega
    · omega
theorem tdiv_pos {a b : Int} (ha : 0 ≤ a) : Int.tdiv a b = a / b := Int.tdiv_eq_ediv_of_nonneg ha
theorem floorDiv_some (a b : Int) (hb : 1 ≤ b ∧ b ≤ 100) (ha : -900000 ≤ a ∧ a ≤ 900000) : impl_floorDiv.f a b = some (a / b) := by
  unfold impl_floorDiv.f
  rw [if_neg (by omega)]
  by_cases h0 : 0 ≤ a
  · have h1 : ¬ Int.tmod a b < 0 := by
      have := Int.tmod_nonneg b h0; omega
    have hs := ediv_small (a := a) (b := b) (n := 900000) hb.1 (by omega) ha
    rw [if_neg h1, tdiv_pos h0, wrap_in _ (by omega) (by omega)]
  · obtain ⟨n, rfl⟩ : ∃ n, a = -n := ⟨-a, by omega⟩
    have hd : Int.tdiv (-n) b = -(n / b) := by rw [Int.neg_tdiv, tdiv_pos (by omega)]
    have hm : Int.tmod (-n) b = -(n % b) := by rw [Int.neg_tmod, Int.tmod_eq_emod_of_nonneg (by omega)]
    have hs := ediv_small (a := n) (b := b) (n := 900000) hb.1 (by omega) (by omega)
    have e1 := Int.emod_add_mul_ediv n b
    have e2 := Int.emod_nonneg n (b := b) (by omega)
    have e3 := Int.emod_lt_of_pos n (b := b) (by omega)
    rw [Int.mul_comm b (n / b)] at e1
    rw [hd, hm, wrap_in (-(n / b)) (by omega) (by omega)]
    by_cases h1 : -(n % b) < 0
    · rw [if_pos h1, wrap_in _ (by omega) (by omega)]
      congr 1
      refine (floor_uniq (by omega) ?_ ?_).symm
      · rw [Int.sub_mul, Int.neg_mul]; omega
      · rw [Int.sub_mul, Int.neg_mul]; omega
    · rw [if_neg h1]
      congr 1
      refine (floor_uniq (by omega) ?_ ?_).symm
      · rw [Int.neg_mul]; omega
      · rw [Int.neg_mul]; omega
theorem l4Floor_some (a b : Int) (hb : 1 ≤ b ∧ b ≤ 100) (ha : -900000 ≤ a ∧ a ≤ 900000) : spec_l4Floor.f a b = some (a / b) := by
  unfold spec_l4Floor.f
  by_cases h0 : a < 0
  · rw [if_pos h0, if_neg (by omega), wrap_in (-a) (by omega) (by omega), wrap_in (-a + b) (by omega) (by omega), wrap_in (-a + b - 1) (by omega) (by omega), tdiv_pos (by omega)]
    have hs := ediv_small (a := -a + b - 1) (b := b) (n := 1000000) hb.1 (by omega) (by omega)
    have hq := ediv_bounds (-a + b - 1) (b := b) (by omega)
    generalize (-a + b - 1) / b = q at hs hq
    rw [wrap_in q (by omega) (by omega), wrap_in (-q) (by omega) (by omega)]
    congr 1
    refine (floor_uniq (by omega) ?_ ?_).symm
    · rw [Int.neg_mul]; omega
    · rw [Int.neg_mul]; omega
  · have hs := ediv_small (a := a) (b := b) (n := 900000) hb.1 (by omega) ha
    rw [if_neg h0, if_neg (by omega), tdiv_pos (by omega), wrap_in _ (by omega) (by omega)]
/-- A value that a cell can have, or one that none can. -/
def okc (q : Int) : Int := if -9000 ≤ q ∧ q ≤ 9000 then q else 9001
theorem checkedCell_some (q : Int) : impl_checkedCell.f q = some (okc q) := by
  unfold impl_checkedCell.f okc
  rw [within_some, Option.bind_some]
  by_cases h : -9000 ≤ q ∧ q ≤ 9000
  · rw [decide_eq_true h, if_pos rfl, if_pos h]
  · rw [decide_eq_false h, if_neg (by simp), if_neg h]
theorem mul_bound {x n : Int} (hx : -9000 ≤ x ∧ x ≤ 9000) (hn : -100 ≤ n ∧ n ≤ 100) : -900000 ≤ x * n ∧ x * n ≤ 900000 := by
  have h := Int.natAbs_mul x n
  have h1 : x.natAbs ≤ 9000 := by omega
  have h2 : n.natAbs ≤ 100 := by omega
  have h3 : x.natAbs * n.natAbs ≤ 9000 * 100 := Nat.mul_le_mul h1 h2
  omega
theorem lit_some (n d x : Int) (hn : -100 ≤ n ∧ n ≤ 100) (hd : 1 ≤ d ∧ d ≤ 100) (hx : -9000 ≤ x ∧ x ≤ 9000) : impl_ScaleField_1.f x n d = some (okc (x * n / d)) := by
  have hm := mul_bound hx hn
  unfold impl_ScaleField_1.f
  rw [wrap_in _ (by omega) (by omega), floorDiv_some _ d hd hm, Option.bind_some, checkedCell_some, Option.bind_some]
theorem l4Checked_some (a b : Int) (l : List Int) (hl : l.length ≤ 64) (ok : Bool) (k : Nat) (hk : 68 ≤ k) : spec_l4Checked.f k a b l ok = some (if ok = true ∧ goodP a b l then (a, b, l, true) else (0, 0, [], false)) := by
  unfold spec_l4Checked.f
  cases ok with
  | false => simp
  | true =>
    rw [if_pos rfl, l2Good_some a b l (by unfold maxLen; omega) k (by omega), Option.bind_some]
    by_cases h : goodP a b l <;> simp [h]
/-- Can a value be scaled? -/
def inR (n d x : Int) : Prop := x = -9999 ∨ (-9000 ≤ x * n / d ∧ x * n / d ≤ 9000)
instance (n d x : Int) : Decidable (inR n d x) := inferInstanceAs (Decidable (_ ∨ _))
theorem spec_loop (a b n dd : Int) (hn : -100 ≤ n ∧ n ≤ 100) (hd : 1 ≤ dd ∧ dd ≤ 100) (l : List Int) (hl : l.length ≤ 64) (hc : ∀ x ∈ l, cellP x) (d : Nat) : ∀ (k i : Nat) (ok : Bool), i + d = l.length → d + 70 < k →
    spec_l4Scale.l0 k n dd ok i a b l a b ((l.map (chg (fun x => x * n / dd))).take i ++ l.drop i) = some (if (ok = true ∧ ∀ x ∈ l.drop i, inR n dd x) ∧ goodP a b (l.map (chg (fun x => x * n / dd))) then (a, b, l.map (chg (fun x => x * n / dd)), true) else (0, 0, [], false)) := by
  generalize hf : (fun x => x * n / dd) = f
  induction d with
  | zero =>
    intro k i ok hi hk
    obtain ⟨k, rfl⟩ : ∃ m, k = m + 1 := ⟨k - 1, by omega⟩
    simp only [spec_l4Scale.l0]
    rw [if_neg (by omega), List.drop_eq_nil_of_le (by omega), List.append_nil, List.take_of_length_le (by rw [List.length_map]; omega), l4Checked_some _ _ _ (by rw [List.length_map]; omega) ok k (by omega), Option.bind_some]
    simp
  | succ d ih =>
    intro k i ok hi hk
    obtain ⟨k, rfl⟩ : ∃ m, k = m + 1 := ⟨k - 1, by omega⟩
    simp only [spec_l4Scale.l0]
    have e1 : (i : Int) < (l.length : Int) := by omega
    have e2 : (0 : Int) ≤ (i : Int) := by omega
    have e3 : (i : Int) < ((List.take i (l.map (chg f)) ++ List.drop i l).length : Int) := by rw [upd_len (chg f) l i (by omega)]; exact e1
    have hx : cellP l[i] := hc _ (List.getElem_mem _)
    have hdr := drop_at l i (by omega)
    simp only [e1, e2, e3, if_true, rd_at l i (by omega), nat_add i (by omega), Int.toNat_natCast]
    by_cases hm : l[i] = -9999
    · simp only [hm, if_true]
      rw [upd_keep (chg f) l i (by omega) (by unfold chg; rw [if_pos hm]), ih k (i + 1) ok (by omega) (by omega)]
      congr 1
      refine ite_same ?_ _ _
      rw [hdr]
      simp only [List.mem_cons, forall_eq_or_imp]
      have : inR n dd l[i] := Or.inl hm
      simp only [this, true_and]
    · have hb : -9000 ≤ l[i] ∧ l[i] ≤ 9000 := by unfold cellP at hx; omega
      have hmb := mul_bound hb hn
      have hs := upd_step (chg f) l i (by omega)
      have hv : chg f l[i] = l[i] * n / dd := by unfold chg; rw [if_neg hm, ← hf]
      rw [hv] at hs
      simp only [hm, if_false, wrap_in (l[i] * n) (by omega) (by omega), l4Floor_some _ dd hd hmb, Option.bind_some, hs]
      cases ok with
      | true =>
        rw [if_pos rfl, l1In_some, Option.bind_some, ih k (i + 1) _ (by omega) (by omega)]
        congr 1
        refine ite_same ?_ _ _
        rw [hdr]
        simp only [List.mem_cons, forall_eq_or_imp, decide_eq_true_eq, true_and]
        have : inR n dd l[i] ↔ (-9000 ≤ l[i] * n / dd ∧ l[i] * n / dd ≤ 9000) := ⟨fun z => z.resolve_left hm, Or.inr⟩
        rw [this]
      | false =>
        rw [if_neg (by simp), ih k (i + 1) _ (by omega) (by omega)]
        simp
theorem both_same (a b : Int) (l : List Int) (n d : Int) (hl : l.length ≤ maxLen) : ∃ p q r z, r.length ≤ 64 ∧ ∀ k, l.length + 180 ≤ k → spec_ScaleField.f k a b l n d = some (p, q, r, z) ∧ impl_ScaleField.f k a b l n d = some (p, q, r, z) := by
  by_cases hn : -100 ≤ n ∧ n ≤ 100
  · by_cases hd : 1 ≤ d ∧ d ≤ 100
    · have hch : ∀ k, l.length + 180 ≤ k → @impl_changed.f (fn_impl_ScaleField_1 n d) k a b l = _ := fun k hk => @changed_some (fn_impl_ScaleField_1 n d) (fun x => okc (x * n / d)) a b l hl (fun k x hx => lit_some n d x hn hd hx) k (by omega)
      by_cases hg : goodP a b l
      · have hlen := good_len hg
        by_cases hr : ∀ x ∈ l, inR n d x
        · have he : l.map (chg (fun x => okc (x * n / d))) = l.map (chg (fun x => x * n / d)) := by
            refine List.map_congr_left fun x hx => ?_
            unfold chg okc
            simp only []
            rcases hr x hx with h | h
            · rw [if_pos h, if_pos h]
            · by_cases hm : x = -9999
              · rw [if_pos hm, if_pos hm]
              · rw [if_neg hm, if_neg hm, if_pos h]
          have hgood : goodP a b (l.map (chg (fun x => x * n / d))) := by
            refine ⟨hg.1, hg.2.1, by rw [List.length_map]; exact hg.2.2.1, fun x hx => ?_⟩
            obtain ⟨y, hy, rfl⟩ := List.mem_map.1 hx
            unfold chg cellP
            simp only []
            rcases hr y hy with h | h
            · rw [if_pos h]; omega
            · by_cases hm : y = -9999
              · rw [if_pos hm]; omega
              · rw [if_neg hm]; omega
          refine ⟨a, b, l.map (chg (fun x => x * n / d)), true, by rw [List.length_map]; omega, fun k hk => ?_⟩
          unfold spec_ScaleField.f impl_ScaleField.f impl_changed_at_impl_ScaleField_1.f spec_l4Scale.f
          have hs := spec_loop a b n d hn hd l hlen.2 hg.2.2.2 l.length k 0 true (by omega) (by omega)
          simp only [List.take_zero, List.drop_zero, List.nil_append] at hs
          rw [show ((0 : Nat) : Int) = 0 from rfl, if_pos ⟨⟨trivial, hr⟩, hgood⟩] at hs
          rw [hch k hk, he, if_pos ⟨hg, hgood⟩, l2Good_some a b l hl k (by omega)]
          simp only [Option.bind_some, decide_eq_true hg, ↓reduceIte, l1In_some, within_some, decide_eq_true hn, decide_eq_true hd, l2Own_some a b l (by omega), hs, and_self]
        · have hbad : ¬ goodP a b (l.map (chg (fun x => okc (x * n / d)))) := by
            intro hgd
            refine hr fun x hx => ?_
            have := hgd.2.2.2 _ (List.mem_map.2 ⟨x, hx, rfl⟩)
            unfold chg okc cellP at this
            simp only [] at this
            unfold inR
            by_cases hm : x = -9999
            · exact Or.inl hm
            · rw [if_neg hm] at this
              by_cases h : -9000 ≤ x * n / d ∧ x * n / d ≤ 9000
              · exact Or.inr h
              · rw [if_neg h] at this; omega
          refine ⟨0, 0, [], false, by simp, fun k hk => ?_⟩
          unfold spec_ScaleField.f impl_ScaleField.f impl_changed_at_impl_ScaleField_1.f spec_l4Scale.f
          have hs := spec_loop a b n d hn hd l hlen.2 hg.2.2.2 l.length k 0 true (by omega) (by omega)
          simp only [List.take_zero, List.drop_zero, List.nil_append] at hs
          rw [show ((0 : Nat) : Int) = 0 from rfl, if_neg (fun z => hr z.1.2)] at hs
          rw [hch k hk, if_neg (fun z => hbad z.2), l2Good_some a b l hl k (by omega)]
          simp only [Option.bind_some, decide_eq_true hg, ↓reduceIte, l1In_some, within_some, decide_eq_true hn, decide_eq_true hd, l2Own_some a b l (by omega), hs, and_self]
      · refine ⟨0, 0, [], false, by simp, fun k hk => ?_⟩
        unfold spec_ScaleField.f impl_ScaleField.f impl_changed_at_impl_ScaleField_1.f
        rw [hch k hk, if_neg (fun z => hg z.1), l2Good_some a b l hl k (by omega)]
        simp only [Option.bind_some, decide_eq_false hg, ↓reduceIte, within_some, decide_eq_true hn, decide_eq_true hd, Bool.false_eq_true, and_self]
    · refine ⟨0, 0, [], false, by simp, fun k hk => ?_⟩
      unfold spec_ScaleField.f impl_ScaleField.f
      rw [l2Good_some a b l hl k (by omega)]
      by_cases hg : goodP a b l
      · simp only [Option.bind_some, decide_eq_true hg, ↓reduceIte, l1In_some, within_some, decide_eq_true hn, decide_eq_false hd, Bool.false_eq_true, and_self]
      · simp only [Option.bind_some, decide_eq_false hg, ↓reduceIte, l1In_some, within_some, decide_eq_true hn, decide_eq_false hd, Bool.false_eq_true, and_self]
  · refine ⟨0, 0, [], false, by simp, fun k hk => ?_⟩
    unfold spec_ScaleField.f impl_ScaleField.f
    rw [l2Good_some a b l hl k (by omega)]
    by_cases hg : goodP a b l
    · simp only [Option.bind_some, decide_eq_true hg, ↓reduceIte, l1In_some, within_some, decide_eq_false hn, Bool.false_eq_true, and_self]
    · simp only [Option.bind_some, decide_eq_false hg, ↓reduceIte, l1In_some, within_some, decide_eq_false hn, Bool.false_eq_true, and_self]
theorem lt_zero_false (n : Int) (h : 0 ≤ n) : (n < 0) = False := by simp; omega
theorem FnExactScaleField : laws_FnExactScaleField.Pure := by
  intro a0 b0 l0 x1 x2 _ _ hw0 _ _
  have hl0 := hw0.1
  refine ⟨l0.length + 200, ?_⟩
  unfold laws_FnExactScaleField.f
  rw [szField_some a0 b0 l0 hl0 _ (by omega) (by omega), Option.bind_some]
  by_cases hs0 : (1048576 : Int) < l0.length
  · rw [if_pos hs0, if_pos (by omega)]
  rw [if_neg hs0, if_neg (by omega)]
  obtain ⟨p, q, r, z, hr, hb⟩ := both_same a0 b0 l0 x1 x2 hl0
  have b1 : ∀ k, l0.length + 190 ≤ k → spec_ScaleField.f k a0 b0 l0 x1 x2 = some (p, q, r, z) := fun k hk => (hb k (by omega)).1
  have b2 : ∀ k, l0.length + 190 ≤ k → impl_ScaleField.f k a0 b0 l0 x1 x2 = some (p, q, r, z) := fun k hk => (hb k (by omega)).2
  have t_0 : ∀ k, l0.length + 190 ≤ k → laws_toField.f k a0 b0 l0 = some (a0, b0, l0) := fun k hk => toField_some a0 b0 l0 (by omega) k (by omega)
  have e_0 : ∀ k, l0.length + 190 ≤ k → laws_eqField.f k a0 b0 l0 a0 b0 l0 = some true := fun k hk => eqField_same a0 b0 l0 hl0 k (by omega)
  have m_0 : ∀ (m : Int), 0 ≤ m → m ≤ 10000000 → ∀ k, l0.length + 190 ≤ k → laws_markField.f k a0 b0 l0 m = some (m + (l0.length : Int), imarks l0.length m) := fun m h0 h1 k hk => markField_some a0 b0 l0 (by omega) m h0 (by omega) k (by omega)
  have e_r : ∀ k, l0.length + 190 ≤ k → laws_eqField.f k p q r p q r = some true := fun k hk => eqField_same p q r (by unfold maxLen; omega) k (by omega)
  have m_r : ∀ k, l0.length + 190 ≤ k → laws_markField.f k p q r 1 = some (1 + (r.length : Int), imarks r.length 1) := fun k hk => markField_some p q r (by omega) 1 (by omega) (by omega) k (by omega)
  have h_r : ∀ k, l0.length + 190 ≤ k → laws_heldField.f k p q (imarks r.length 1) 1 = some (1 + (r.length : Int)) := fun k hk => heldField_some p q r.length (by omega) k (by omega)
  simp (disch := omega) only [b1, b2, t_0, e_0, m_0, e_r, m_r, h_r, Option.bind_some, ↓reduceIte, bne_self_eq_false, Bool.false_eq_true, lt_zero_false, ne_eq, not_true, not_false_eq_true, if_true, if_false, decide_true, decide_false, Bool.or_self, Bool.or_false]
  simp (disch := omega) only [laws_FnExactScaleField.j0, b1, b2, t_0, e_0, m_0, e_r, m_r, h_r, Option.bind_some, ↓reduceIte, bne_self_eq_false, Bool.false_eq_true, lt_zero_false, ne_eq, not_true, not_false_eq_true, if_true, if_false, decide_true, decide_false, Bool.or_self, Bool.or_false]
  simp (disch := omega) only [laws_FnExactScaleField.j1, b1, b2, t_0, e_0, m_0, e_r, m_r, h_r, Option.bind_some, ↓reduceIte, bne_self_eq_false, Bool.false_eq_true, lt_zero_false, ne_eq, not_true, not_false_eq_true, if_true, if_false, decide_true, decide_false, Bool.or_self, Bool.or_false]
  simp (disch := omega) only [laws_FnExactScaleField.j2, b1, b2, t_0, e_0, m_0, e_r, m_r, h_r, Option.bind_some, ↓reduceIte, bne_self_eq_false, Bool.false_eq_true, lt_zero_false, ne_eq, not_true, not_false_eq_true, if_true, if_false, decide_true, decide_false, Bool.or_self, Bool.or_false]

end Go.Proofs.Ytmbjhcdmnjhnoaa.Pure
