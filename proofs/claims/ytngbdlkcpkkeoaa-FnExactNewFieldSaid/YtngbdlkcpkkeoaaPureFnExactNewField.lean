/- The pure statement of NewField: spec and impl make the same field. No conditions. -/
import Derived.Test.YtngbdlkcpkkeoaaPFnExactNewFieldx2
namespace Go.Proofs.Ytngbdlkcpkkeoaa.Pure
open Go.RowKit Go.Proofs.Ytngbdlkcpkkeoaa.PFnExactNewField Go.Proofs.YtngbdlkcpkkeoaaW.PrintWords Go.Proofs.YtngbdlkcpkkeoaaW.PrintLast
set_option linter.unusedVariables false
set_option linter.unusedSimpArgs false
theorem wrap_in (c : Int) (h1 : -9223372036854775808 ≤ c) (h2 : c ≤ 9223372036854775807) : wrap64 c = c := by unfold wrap64; omega
theorem rd_at (l : List Int) (i : Nat) (h : i < l.length) : rd l (i : Int) = l[i] := by
  unfold rd
  rw [Int.toNat_natCast, List.getD_eq_getElem?_getD, List.getElem?_eq_getElem h]; rfl
theorem drop_at {α : Type} (l : List α) (i : Nat) (h : i < l.length) : l.drop i = l[i] :: l.drop (i + 1) := List.drop_eq_getElem_cons h
theorem maxLen_le {n : Nat} (h : n ≤ maxLen) : n ≤ 9223372036854775807 := h
theorem forall_cons {α : Type} {p : α → Prop} [DecidablePred p] (x : α) (l : List α) : decide (∀ y ∈ x :: l, p y) = (decide (p x) && decide (∀ y ∈ l, p y)) := by
  rw [Bool.eq_iff_iff]; simp
theorem nat_add (i : Nat) (h : i + 1 ≤ 9223372036854775807) : wrap64 ((i : Int) + 1) = ((i + 1 : Nat) : Int) := by rw [wrap_in _ (by omega) (by omega)]; omega
/-- What a cell may be. -/
def cellP (x : Int) : Prop := x = -9999 ∨ (-9000 ≤ x ∧ x ≤ 9000)
instance : DecidablePred cellP := fun _ => inferInstanceAs (Decidable (_ ∨ _))
/-- When a field is valid. -/
def goodP (a b : Int) (l : List Int) : Prop := (1 ≤ a ∧ a ≤ 8) ∧ (1 ≤ b ∧ b ≤ 8) ∧ (l.length : Int) = a * b ∧ ∀ x ∈ l, cellP x
instance (a b : Int) (l : List Int) : Decidable (goodP a b l) := inferInstanceAs (Decidable (_ ∧ _))
theorem mul_small {a b : Int} (ha : 1 ≤ a ∧ a ≤ 8) (hb : 1 ≤ b ∧ b ≤ 8) : 1 ≤ a * b ∧ a * b ≤ 64 := by
  have : a = 1 ∨ a = 2 ∨ a = 3 ∨ a = 4 ∨ a = 5 ∨ a = 6 ∨ a = 7 ∨ a = 8 := by omega
  rcases this with rfl | rfl | rfl | rfl | rfl | rfl | rfl | rfl <;> omega
theorem l1In_some (x a b : Int) : spec_l1In.f x a b = some (decide (a ≤ x ∧ x ≤ b)) := by
  unfold spec_l1In.f
  by_cases h : x ≥ a
  · rw [if_pos h]; simp [show a ≤ x from h]
  · rw [if_neg h]; simp [show ¬ a ≤ x from h]
theorem within_some (x a b : Int) : impl_within.f x a b = some (decide (a ≤ x ∧ x ≤ b)) := l1In_some x a b
theorem l2Value_some (x : Int) : spec_l2Value.f x = some (decide (cellP x)) := by
  unfold spec_l2Value.f cellP
  by_cases h : x = -9999
  · rw [if_pos h]; simp [h]
  · rw [if_neg h, l1In_some]; simp [h]
theorem isCell_some (x : Int) : impl_isCell.f x = some (decide (cellP x)) := l2Value_some x
theorem l2Shape_some (a b : Int) : spec_l2Shape.f a b = some (decide ((1 ≤ a ∧ a ≤ 8) ∧ (1 ≤ b ∧ b ≤ 8))) := by
  unfold spec_l2Shape.f
  rw [l1In_some, l1In_some]
  by_cases h : 1 ≤ a ∧ a ≤ 8 <;> simp [h]
theorem eqInt_loop (l m : List Int) (hl : l.length ≤ maxLen) (hm : l.length = m.length) (d : Nat) : ∀ (k i : Nat), i + d = l.length → d < k → laws_eqIntS.l0 k l m i = some (decide (l.drop i = m.drop i)) := by
  have hl' := maxLen_le hl
  induction d with
  | zero =>
    intro k i hi hk
    obtain ⟨k, rfl⟩ : ∃ m, k = m + 1 := ⟨k - 1, by omega⟩
    simp only [laws_eqIntS.l0]
    rw [if_neg (by omega), List.drop_eq_nil_of_le (by omega), List.drop_eq_nil_of_le (by omega)]; simp
  | succ d ih =>
    intro k i hi hk
    obtain ⟨k, rfl⟩ : ∃ m, k = m + 1 := ⟨k - 1, by omega⟩
    simp only [laws_eqIntS.l0]
    rw [if_pos (by omega), if_pos (by omega), if_pos (by omega), rd_at l i (by omega), rd_at m i (by omega), nat_add i (by omega), drop_at l i (by omega), drop_at m i (by omega)]
    by_cases h : l[i] = m[i]
    · rw [if_pos h, ih k (i + 1) (by omega) (by omega), h]; congr 1; rw [decide_eq_decide]; exact ⟨fun z => by rw [z], fun z => by injection z⟩
    · rw [if_neg h]; congr 1; symm; apply decide_eq_false; intro z; injection z with z _; exact h z
theorem eqInt_some (l m : List Int) (hl : l.length ≤ maxLen) (k : Nat) (hk : l.length + 2 ≤ k) : laws_eqIntS.f k l m = some (decide (l = m)) := by
  unfold laws_eqIntS.f
  by_cases h : l.length = m.length
  · rw [if_pos (by omega)]
    have := eqInt_loop l m hl h l.length k 0 (by omega) (by omega)
    simpa using this
  · rw [if_neg (by omega)]
    congr 1; symm; apply decide_eq_false
    rintro rfl; exact h rfl
theorem eqField_same (a b : Int) (l : List Int) (hl : l.length ≤ maxLen) (k : Nat) (hk : l.length + 2 ≤ k) : laws_eqField.f k a b l a b l = some true := by
  unfold laws_eqField.f
  rw [if_pos rfl, if_pos rfl, eqInt_some l l hl k hk]; simp
/-- The marks that the law writes. -/
def imarks : Nat → Int → List Int
  | 0, _ => []
  | n + 1, m => m :: imarks n (m + 1)
theorem imarks_len (n : Nat) : ∀ m, (imarks n m).length = n := by
  induction n with
  | zero => intro m; rfl
  | succ n ih => intro m; simp [imarks, ih]
theorem markInt_loop (d : Nat) : ∀ (k i : Nat) (l : List Int) (m : Int), i + d = l.length → d < k → l.length ≤ 1000000000 → 0 ≤ m → m ≤ 1000000000000000 - d → laws_markIntS.l0 k l m i = some (m + d, l.take i ++ imarks d m) := by
  induction d with
  | zero =>
    intro k i l m hi hk hl h0 h1
    obtain ⟨k, rfl⟩ : ∃ m, k = m + 1 := ⟨k - 1, by omega⟩
    simp only [laws_markIntS.l0]
    rw [if_neg (by omega), List.take_of_length_le (by omega)]
    simp [imarks]
  | succ d ih =>
    intro k i l m hi hk hl h0 h1
    obtain ⟨k, rfl⟩ : ∃ m, k = m + 1 := ⟨k - 1, by omega⟩
    simp only [laws_markIntS.l0]
    rw [if_pos (by omega), if_pos (by omega), Int.toNat_natCast, wrap_in (m + 1) (by omega) (by omega), nat_add i (by omega), ih k (i + 1) _ _ (by rw [List.length_set]; omega) (by omega) (by rw [List.length_set]; omega) (by omega) (by omega)]
    congr 1
    refine Prod.ext (by show _ + _ = _ + _; omega) ?_
    show _ ++ _ = _ ++ _
    rw [List.take_succ_eq_append_getElem (by rw [List.length_set]; omega), imarks]
    simp [List.take_set_of_le]
theorem heldInt_loop (d : Nat) : ∀ (k i : Nat) (l : List Int) (m : Int), i + d = l.length → d < k → l.length ≤ 1000000000 → 0 ≤ m → m ≤ 1000000000000000 - d → l.drop i = imarks d m → laws_heldIntS.l0 k l m i = some (m + d) := by
  induction d with
  | zero =>
    intro k i l m hi hk hl h0 h1 he
    obtain ⟨k, rfl⟩ : ∃ m, k = m + 1 := ⟨k - 1, by omega⟩
    simp only [laws_heldIntS.l0]
    rw [if_neg (by omega)]
    simp
  | succ d ih =>
    intro k i l m hi hk hl h0 h1 he
    obtain ⟨k, rfl⟩ : ∃ m, k = m + 1 := ⟨k - 1, by omega⟩
    rw [drop_at l i (by omega), imarks] at he
    injection he with he1 he2
    simp only [laws_heldIntS.l0]
    rw [if_pos (by omega), if_pos (by omega), rd_at _ i (by omega), he1]
    rw [if_pos rfl, wrap_in (m + 1) (by omega) (by omega), nat_add i (by omega), ih k (i + 1) _ _ (by omega) (by omega) hl (by omega) (by omega) he2]
    congr 1; omega
theorem markInt_some (l : List Int) (hl : l.length ≤ 1000000000) (m : Int) (h0 : 0 ≤ m) (h1 : m ≤ 100000000000) (k : Nat) (hk : l.length < k) : laws_markIntS.f k l m = some (m + l.length, imarks l.length m) := by
  unfold laws_markIntS.f
  have := markInt_loop l.length k 0 l m (by omega) hk hl h0 (by omega)
  simpa using this
theorem heldInt_some (n : Nat) (hn : n ≤ 1000000000) (m : Int) (h0 : 0 ≤ m) (h1 : m ≤ 100000000000) (k : Nat) (hk : n < k) : laws_heldIntS.f k (imarks n m) m = some (m + n) := by
  unfold laws_heldIntS.f
  have hm := imarks_len n m
  exact heldInt_loop n k 0 (imarks n m) m (by omega) hk (by omega) h0 (by omega) rfl
theorem ge_zero (n : Nat) : ((1 + (n : Int)) < 0) = False := by simp; omega
theorem markField_some (a b : Int) (l : List Int) (hl : l.length ≤ 1000000000) (m : Int) (h0 : 0 ≤ m) (h1 : m ≤ 100000000000) (k : Nat) (hk : l.length < k) : laws_markField.f k a b l m = some (m + l.length, imarks l.length m) := by
  unfold laws_markField.f
  rw [markInt_some l hl m h0 h1 k hk]; rfl
theorem heldField_some (a b : Int) (n : Nat) (hn : n ≤ 1000000000) (k : Nat) (hk : n < k) : laws_heldField.f k a b (imarks n 1) 1 = some (1 + (n : Int)) := by
  unfold laws_heldField.f
  rw [heldInt_some n hn 1 (by omega) (by omega) k hk, Option.bind_some]
  rw [if_neg (by omega)]
theorem isShape_some (a b : Int) : impl_isShape.f a b = some (decide ((1 ≤ a ∧ a ≤ 8) ∧ (1 ≤ b ∧ b ≤ 8))) := l2Shape_some a b
theorem filled_some (a b v : Int) (ha : 1 ≤ a ∧ a ≤ 8) (hb : 1 ≤ b ∧ b ≤ 8) : impl_filled.f a b v = some (a, b, List.replicate (a * b).toNat v) := by
  have h := mul_small ha hb
  unfold impl_filled.f slices_Repeat_int_int.f
  rw [wrap_in _ (by omega) (by omega), if_pos ⟨rfl, h.1, h.2⟩]
  rfl
theorem l2Fill_loop (a b v : Int) (h : 1 ≤ a * b ∧ a * b ≤ 64) (d : Nat) : ∀ (k i : Nat), (i : Int) + d = a * b → d < k → spec_l2Fill.l0 k a b v i a b (List.replicate i v) = some (a, b, List.replicate (i + d) v) := by
  induction d with
  | zero =>
    intro k i hi hk
    obtain ⟨k, rfl⟩ : ∃ m, k = m + 1 := ⟨k - 1, by omega⟩
    simp only [spec_l2Fill.l0]
    rw [wrap_in (a * b) (by omega) (by omega), if_neg (by omega)]
    simp
  | succ d ih =>
    intro k i hi hk
    obtain ⟨k, rfl⟩ : ∃ m, k = m + 1 := ⟨k - 1, by omega⟩
    simp only [spec_l2Fill.l0]
    rw [wrap_in (a * b) (by omega) (by omega), if_pos (by omega), if_pos (by rw [List.length_replicate]; omega), nat_add i (by omega), show List.replicate i v ++ [v] = List.replicate (i + 1) v from List.replicate_succ'.symm, ih k (i + 1) (by omega) (by omega)]
    congr 4; omega
theorem l2Fill_some (a b v : Int) (ha : 1 ≤ a ∧ a ≤ 8) (hb : 1 ≤ b ∧ b ≤ 8) (k : Nat) (hk : 65 ≤ k) : spec_l2Fill.f k a b v = some (a, b, List.replicate (a * b).toNat v) := by
  have h := mul_small ha hb
  unfold spec_l2Fill.f
  have := l2Fill_loop a b v h (a * b).toNat k 0 (by omega) (by omega)
  simpa using this
theorem both_same (a b v : Int) : ∃ p q r z, r.length ≤ 64 ∧ ∀ k, 0 + 80 ≤ k → spec_NewField.f k a b v = some (p, q, r, z) ∧ impl_NewField.f a b v = some (p, q, r, z) := by
  unfold spec_NewField.f impl_NewField.f
  simp only [l2Shape_some, isShape_some, l2Value_some, isCell_some, Option.bind_some]
  by_cases hs : (1 ≤ a ∧ a ≤ 8) ∧ (1 ≤ b ∧ b ≤ 8)
  · by_cases hv : cellP v
    · have h := mul_small hs.1 hs.2
      refine ⟨a, b, List.replicate (a * b).toNat v, true, by rw [List.length_replicate]; omega, fun k hk => ?_⟩
      simp only [decide_eq_true hs, decide_eq_true hv, if_true, filled_some a b v hs.1 hs.2, l2Fill_some a b v hs.1 hs.2 k (by omega), Option.bind_some, and_self]
    · refine ⟨0, 0, [], false, by simp, fun k hk => ?_⟩
      simp only [decide_eq_true hs, decide_eq_false hv, if_true, Bool.false_eq_true, if_false, and_self]
  · refine ⟨0, 0, [], false, by simp, fun k hk => ?_⟩
    simp only [decide_eq_false hs, Bool.false_eq_true, if_false, and_self]
theorem lt_zero_false (n : Int) (h : 0 ≤ n) : (n < 0) = False := by simp; omega
theorem FnExactNewField : laws_FnExactNewField.Pure := by
  intro x0 x1 x2 _ _ _
  refine ⟨0 + 100, ?_⟩
  unfold laws_FnExactNewField.f
  obtain ⟨p, q, r, z, hr, hb⟩ := both_same x0 x1 x2
  have b1 : ∀ k, 0 + 90 ≤ k → spec_NewField.f k x0 x1 x2 = some (p, q, r, z) := fun k hk => (hb k (by omega)).1
  have b2 : ∀ k, 0 + 90 ≤ k → impl_NewField.f x0 x1 x2 = some (p, q, r, z) := fun k hk => (hb k (by omega)).2
  replace b2 := b2 (0 + 90) (Nat.le_refl _)
  have e_r : ∀ k, 0 + 90 ≤ k → laws_eqField.f k p q r p q r = some true := fun k hk => eqField_same p q r (by unfold maxLen; omega) k (by omega)
  have m_r : ∀ k, 0 + 90 ≤ k → laws_markField.f k p q r 1 = some (1 + (r.length : Int), imarks r.length 1) := fun k hk => markField_some p q r (by omega) 1 (by omega) (by omega) k (by omega)
  have h_r : ∀ k, 0 + 90 ≤ k → laws_heldField.f k p q (imarks r.length 1) 1 = some (1 + (r.length : Int)) := fun k hk => heldField_some p q r.length (by omega) k (by omega)
  simp (disch := omega) only [b1, b2, e_r, m_r, h_r, Option.bind_some, ↓reduceIte, bne_self_eq_false, Bool.false_eq_true, lt_zero_false, ne_eq, not_true, not_false_eq_true, if_true, if_false, decide_true, decide_false, Bool.or_self, Bool.or_false]
  simp (disch := omega) only [laws_FnExactNewField.j0, b1, b2, e_r, m_r, h_r, Option.bind_some, ↓reduceIte, bne_self_eq_false, Bool.false_eq_true, lt_zero_false, ne_eq, not_true, not_false_eq_true, if_true, if_false, decide_true, decide_false, Bool.or_self, Bool.or_false]
  simp (disch := omega) only [laws_FnExactNewField.j1, b1, b2, e_r, m_r, h_r, Option.bind_some, ↓reduceIte, bne_self_eq_false, Bool.false_eq_true, lt_zero_false, ne_eq, not_true, not_false_eq_true, if_true, if_false, decide_true, decide_false, Bool.or_self, Bool.or_false]

end Go.Proofs.Ytngbdlkcpkkeoaa.Pure
