/- IsExpression of the program and of the reference answer the same for every list of nodes: the law FnExactIsExpression answers true. No conditions. -/
import Derived.Test.YtngbdlkcpkkeoaaPFnExactIsExpressionx3
namespace Go.Proofs.Ytngbdlkcpkkeoaa.Pure
open Go.RowKit Go.Proofs.Ytngbdlkcpkkeoaa.PFnExactIsExpression Go.Proofs.YtngbdlkcpkkeoaaW.PrintWords Go.Proofs.YtngbdlkcpkkeoaaW.PrintLast
set_option linter.unusedSimpArgs false

theorem wrap_in (c : Int) (h1 : -9223372036854775808 ≤ c) (h2 : c ≤ 9223372036854775807) : wrap64 c = c := by unfold wrap64; omega
theorem rd_at (l : List Int) (i : Nat) (h : i < l.length) : rd l (i : Int) = l[i] := by
  unfold rd
  rw [Int.toNat_natCast, List.getD_eq_getElem?_getD, List.getElem?_eq_getElem h]; rfl
theorem drop_at {α : Type} (l : List α) (i : Nat) (h : i < l.length) : l.drop i = l[i] :: l.drop (i + 1) := List.drop_eq_getElem_cons h
theorem maxLen_le {n : Nat} (h : n ≤ maxLen) : n ≤ 9223372036854775807 := h
theorem forall_cons {α : Type} {p : α → Prop} [DecidablePred p] (x : α) (l : List α) : decide (∀ y ∈ x :: l, p y) = (decide (p x) && decide (∀ y ∈ l, p y)) := by
  rw [Bool.eq_iff_iff]; simp
theorem nat_add (i : Nat) (h : i + 1 ≤ 9223372036854775807) : wrap64 ((i : Int) + 1) = ((i + 1 : Nat) : Int) := by rw [wrap_in _ (by omega) (by omega)]; omega
abbrev Nd := S60
abbrev Ld := S62
theorem rdN_at (l : List Nd) (i : Nat) (h : i < l.length) : rd_T60 l (i : Int) = l[i] := by
  unfold rd_T60
  rw [Int.toNat_natCast, List.getD_eq_getElem?_getD, List.getElem?_eq_getElem h]; rfl
theorem rdL_at (l : List Ld) (i : Nat) (h : i < l.length) : rd_T62 l (i : Int) = l[i] := by
  unfold rd_T62
  rw [Int.toNat_natCast, List.getD_eq_getElem?_getD, List.getElem?_eq_getElem h]; rfl
/-- How many arguments a node has, -1 for no node. -/
def ar (a b : Int) : Int := if (a = 1 ∧ 0 ≤ b ∧ b ≤ 3) ∨ (a = 2 ∧ 0 ≤ b ∧ b ≤ 9000) then 0 else if (3 ≤ a ∧ a ≤ 6) ∧ b = 0 then 2 else if a = 7 ∧ 0 ≤ b ∧ b ≤ 9000 then 1 else -1
theorem ar_le (a b : Int) : -1 ≤ ar a b ∧ ar a b ≤ 2 := by unfold ar; split <;> (try split) <;> (try split) <;> omega
theorem l1In_some (x a b : Int) : spec_l1In.f x a b = some (decide (a ≤ x ∧ x ≤ b)) := by
  unfold spec_l1In.f
  by_cases h : x ≥ a
  · rw [if_pos h]; simp [show a ≤ x from h]
  · rw [if_neg h]; simp [show ¬ a ≤ x from h]
theorem within_some (x a b : Int) : impl_within.f x a b = some (decide (a ≤ x ∧ x ≤ b)) := l1In_some x a b
theorem arity_some (a b : Int) (k : Nat) (hk : 3 ≤ k) : spec_l5Arity.f k a b = some (ar a b) := by
  obtain ⟨k, rfl⟩ : ∃ m, k = m + 1 + 1 + 1 := ⟨k - 3, by omega⟩
  unfold spec_l5Arity.f ar
  simp only [l1In_some, Option.bind_some, spec_l5Arity.j0, spec_l5Arity.j1, spec_l5Arity.j2]
  by_cases h1 : a = 1
  · subst h1
    by_cases h2 : 0 ≤ b ∧ b ≤ 3 <;> simp [h2]
  · by_cases h2 : a = 2
    · subst h2
      by_cases h3 : 0 ≤ b ∧ b ≤ 9000 <;> simp [h3]
    · by_cases h3 : 3 ≤ a ∧ a ≤ 6
      · have h7 : ¬ a = 7 := by omega
        by_cases h4 : b = 0 <;> simp [h1, h2, h3, h4, h7]
      · by_cases h7 : a = 7
        · subst h7
          by_cases h5 : 0 ≤ b ∧ b ≤ 9000 <;> simp [h5]
        · simp [h1, h2, h3, h7]
theorem arguments_some (a b : Int) : impl_arguments.f a b = some (if 3 ≤ a ∧ a ≤ 6 then 2 else if a = 7 then 1 else 0) := by
  unfold impl_arguments.f
  rw [within_some]
  by_cases h3 : 3 ≤ a ∧ a ≤ 6
  · simp [h3]
  · by_cases h7 : a = 7 <;> simp [h3, h7]
theorem isNode_some (a b : Int) (k : Nat) (hk : 1 ≤ k) : impl_isNode.f k a b = some (decide (0 ≤ ar a b)) := by
  obtain ⟨k, rfl⟩ : ∃ m, k = m + 1 := ⟨k - 1, by omega⟩
  unfold impl_isNode.f ar
  simp only [within_some, Option.bind_some, impl_isNode.j0]
  by_cases h1 : a = 1
  · subst h1
    by_cases h2 : 0 ≤ b ∧ b ≤ 3 <;> simp [h2]
  · by_cases h2 : a = 2
    · subst h2
      by_cases h3 : 0 ≤ b ∧ b ≤ 9000 <;> simp [h3]
    · by_cases h3 : 3 ≤ a ∧ a ≤ 6
      · have h7 : ¬ a = 7 := by omega
        by_cases h4 : b = 0 <;> simp [h1, h2, h3, h4, h7]
      · by_cases h7 : a = 7
        · subst h7
          by_cases h5 : 0 ≤ b ∧ b ≤ 9000 <;> simp [h5]
        · simp [h1, h2, h3, h7]
theorem args_ar (a b : Int) (h : 0 ≤ ar a b) : (if 3 ≤ a ∧ a ≤ 6 then 2 else if a = 7 then 1 else 0 : Int) = ar a b := by
  unfold ar at h ⊢
  by_cases h1 : (a = 1 ∧ 0 ≤ b ∧ b ≤ 3) ∨ (a = 2 ∧ 0 ≤ b ∧ b ≤ 9000)
  · rw [if_pos h1, if_neg (by omega), if_neg (by omega)]
  · rw [if_neg h1] at h ⊢
    by_cases h2 : (3 ≤ a ∧ a ≤ 6) ∧ b = 0
    · rw [if_pos h2, if_pos h2.1]
    · rw [if_neg h2] at h ⊢
      by_cases h3 : a = 7 ∧ 0 ≤ b ∧ b ≤ 9000
      · rw [if_pos h3, if_neg (by omega), if_pos h3.1]
      · rw [if_neg h3] at h; omega
/-- The places that are open behind a list of nodes, or none. -/
def scan : List Nd → Int → Option Int
  | [], o => some o
  | n :: r, o => if ar n.f0 n.f1 < 0 then none else if ar n.f0 n.f1 > o then none else scan r (o - ar n.f0 n.f1 + 1)
/-- Whether a list is an expression. -/
def goodE (l : List Nd) : Bool := decide (l.length ≤ 15) && (scan l 0 == some 1)
theorem l5Good_loop (l : List Nd) (hl : l.length ≤ 15) (d : Nat) : ∀ (k i : Nat) (o : Int), i + d = l.length → d + 3 < k → 0 ≤ o → o ≤ i → spec_l5Good.l0 k l o i = some (scan (l.drop i) o == some 1) := by
  induction d with
  | zero =>
    intro k i o hi hk h0 h1
    obtain ⟨k, rfl⟩ : ∃ m, k = m + 1 := ⟨k - 1, by omega⟩
    simp only [spec_l5Good.l0]
    rw [if_neg (by omega), List.drop_eq_nil_of_le (by omega)]; rfl
  | succ d ih =>
    intro k i o hi hk h0 h1
    obtain ⟨k, rfl⟩ : ∃ m, k = m + 1 := ⟨k - 1, by omega⟩
    simp only [spec_l5Good.l0]
    rw [if_pos (by omega), if_pos (by omega), rdN_at l i (by omega), arity_some _ _ k (by omega), drop_at l i (by omega), Option.bind_some, scan]
    have ha := ar_le l[i].f0 l[i].f1
    by_cases h2 : ar l[i].f0 l[i].f1 < 0
    · rw [if_pos h2, if_pos h2]; rfl
    · rw [if_neg h2, if_neg h2]
      by_cases h3 : ar l[i].f0 l[i].f1 > o
      · rw [if_pos h3, if_pos h3]; rfl
      · rw [if_neg h3, if_neg h3, wrap_in (o - _) (by omega) (by omega), wrap_in (_ + 1) (by omega) (by omega), nat_add i (by omega)]
        exact ih k (i + 1) _ (by omega) (by omega) (by omega) (by omega)
theorem l5Good_some (l : List Nd) (k : Nat) (hk : 20 ≤ k) : spec_l5Good.f k l = some (goodE l) := by
  unfold spec_l5Good.f goodE
  by_cases h : l.length ≤ 15
  · rw [if_neg (by omega), decide_eq_true h, Bool.true_and]
    exact l5Good_loop l h l.length k 0 0 (by omega) (by omega) (by omega) (by omega)
  · rw [if_pos (by omega), decide_eq_false h, Bool.false_and]
theorem isExpr_loop (l : List Nd) (hl : l.length ≤ 15) (d : Nat) : ∀ (k i : Nat) (o : Int), i + d = l.length → d + 3 < k → 0 ≤ o → o ≤ i → impl_IsExpression.l0 k o l (l.length : Int) i = some (scan (l.drop i) o == some 1) := by
  induction d with
  | zero =>
    intro k i o hi hk h0 h1
    obtain ⟨k, rfl⟩ : ∃ m, k = m + 1 := ⟨k - 1, by omega⟩
    simp only [impl_IsExpression.l0]
    rw [if_neg (by omega), List.drop_eq_nil_of_le (by omega)]; rfl
  | succ d ih =>
    intro k i o hi hk h0 h1
    obtain ⟨k, rfl⟩ : ∃ m, k = m + 1 := ⟨k - 1, by omega⟩
    simp only [impl_IsExpression.l0]
    rw [if_pos (by omega), if_pos (by omega), if_pos (by omega), rdN_at l i (by omega), arguments_some, isNode_some _ _ k (by omega), drop_at l i (by omega)]
    simp only [Option.bind_some, scan]
    have ha := ar_le l[i].f0 l[i].f1
    by_cases h2 : ar l[i].f0 l[i].f1 < 0
    · rw [decide_eq_false (by omega), if_neg (by simp), if_pos h2]; rfl
    · rw [decide_eq_true (by omega), if_pos rfl, if_neg h2, args_ar l[i].f0 l[i].f1 (by omega), wrap_in (o - _) (by omega) (by omega)]
      by_cases h3 : ar l[i].f0 l[i].f1 > o
      · rw [if_pos (by omega), if_pos h3]; rfl
      · rw [if_neg (by omega), if_neg h3, wrap_in (_ + 1) (by omega) (by omega), nat_add i (by omega)]
        exact ih k (i + 1) _ (by omega) (by omega) (by omega) (by omega)
theorem isExpr_some (l : List Nd) (k : Nat) (hk : 20 ≤ k) : impl_IsExpression.f k l = some (goodE l) := by
  unfold impl_IsExpression.f goodE
  by_cases h : l.length ≤ 15
  · rw [if_neg (by omega), decide_eq_true h, Bool.true_and]
    exact isExpr_loop l h l.length k 0 0 (by omega) (by omega) (by omega) (by omega)
  · rw [if_pos (by omega), decide_eq_false h, Bool.false_and]
theorem szNode_some (l : List Ld) (hl : l.length ≤ maxLen) (n : Int) (h0 : 0 ≤ n) (h1 : n ≤ 1048576) : laws_szNodeS.f l n = some (if n < l.length then -1 else n - l.length) := by
  have hl' := maxLen_le hl
  unfold laws_szNodeS.f
  rw [wrap_in _ (by omega) (by omega)]
  by_cases h : n < l.length
  · rw [if_pos (by omega), if_pos h]
  · rw [if_neg (by omega), if_neg h]
/-- The nodes as the program has them. -/
def toN (l : List Ld) : List Nd := l.map fun x => ⟨x.f0, x.f1⟩
theorem toN_len (l : List Ld) : (toN l).length = l.length := by unfold toN; simp
theorem toNode_loop (l : List Ld) (hl : l.length ≤ maxLen) (d : Nat) : ∀ (k i : Nat) (o : List Nd), i + d = l.length → d < k → o.length = l.length → o.take i = (toN l).take i → laws_toNodeS.l0 k l o i = some (toN l) := by
  have hl' := maxLen_le hl
  have hn := toN_len l
  induction d with
  | zero =>
    intro k i o hi hk ho ht
    obtain ⟨k, rfl⟩ : ∃ m, k = m + 1 := ⟨k - 1, by omega⟩
    simp only [laws_toNodeS.l0]
    rw [if_neg (by omega), ← List.take_of_length_le (l := o) (i := i) (by omega), ht, List.take_of_length_le (by omega)]
  | succ d ih =>
    intro k i o hi hk ho ht
    obtain ⟨k, rfl⟩ : ∃ m, k = m + 1 := ⟨k - 1, by omega⟩
    simp only [laws_toNodeS.l0, laws_toNode.f, Option.bind_some]
    rw [if_pos (by omega), if_pos (by omega), if_pos (by omega), rdL_at l i (by omega), nat_add i (by omega), Int.toNat_natCast]
    refine ih k (i + 1) _ (by omega) (by omega) (by simpa using ho) ?_
    rw [List.take_succ_eq_append_getElem (by simpa [ho] using (by omega : i < l.length)), List.take_succ_eq_append_getElem (by omega), List.take_set_of_le (by omega), ht]
    simp [toN]
theorem toNode_some (l : List Ld) (hl : l.length ≤ 1048576) (k : Nat) (hk : l.length + 2 ≤ k) : laws_toNodeS.f k l = some (toN l) := by
  unfold laws_toNodeS.f
  rw [if_pos (by omega), if_pos (by omega)]
  exact toNode_loop l (by unfold maxLen; omega) l.length k 0 _ (by omega) (by omega) (by simp) rfl
theorem eqNode_loop (l : List Nd) (hl : l.length ≤ maxLen) (d : Nat) : ∀ (k i : Nat), i + d = l.length → d < k → laws_eqNodeS.l0 k l l i = some true := by
  have hl' := maxLen_le hl
  induction d with
  | zero =>
    intro k i hi hk
    obtain ⟨k, rfl⟩ : ∃ m, k = m + 1 := ⟨k - 1, by omega⟩
    simp only [laws_eqNodeS.l0]
    rw [if_neg (by omega)]
  | succ d ih =>
    intro k i hi hk
    obtain ⟨k, rfl⟩ : ∃ m, k = m + 1 := ⟨k - 1, by omega⟩
    simp only [laws_eqNodeS.l0, laws_eqNode.f, if_true, Option.bind_some]
    rw [if_pos (by omega), if_pos (by omega), if_pos (by omega), nat_add i (by omega), ih k (i + 1) (by omega) (by omega)]
theorem eqNode_same (l : List Nd) (hl : l.length ≤ maxLen) (k : Nat) (hk : l.length + 2 ≤ k) : laws_eqNodeS.f k l l = some true := by
  unfold laws_eqNodeS.f
  rw [if_pos rfl]
  exact eqNode_loop l hl l.length k 0 (by omega) (by omega)
theorem FnExactIsExpression : laws_FnExactIsExpression.Pure := by
  intro l hw
  have hl := hw.1
  refine ⟨l.length + 20, ?_⟩
  unfold laws_FnExactIsExpression.f
  rw [szNode_some l hl _ (by omega) (by omega), Option.bind_some]
  by_cases hs : (1048576 : Int) < l.length
  · rw [if_pos hs, if_pos (by omega)]
  · have hn := toN_len l
    rw [if_neg hs, if_neg (by omega), toNode_some l (by omega) _ (by omega)]
    simp only [Option.bind_some]
    unfold spec_IsExpression.f
    rw [l5Good_some _ _ (by omega), isExpr_some _ _ (by omega), eqNode_same (toN l) (by unfold maxLen; omega) _ (by omega)]
    simp

end Go.Proofs.Ytngbdlkcpkkeoaa.Pure
