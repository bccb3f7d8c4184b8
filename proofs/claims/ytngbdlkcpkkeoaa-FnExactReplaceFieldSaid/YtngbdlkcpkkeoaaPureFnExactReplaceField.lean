/- ReplaceField of the program and of the reference answer the same for all two lists of nodes and every number: the law FnExactReplaceField answers true. No conditions. -/
import Derived.Test.YtngbdlkcpkkeoaaPFnExactReplaceFieldx6
namespace Go.Proofs.Ytngbdlkcpkkeoaa.Pure
open Go.RowKit Go.Proofs.Ytngbdlkcpkkeoaa.PFnExactReplaceField Go.Proofs.YtngbdlkcpkkeoaaW.PrintWords Go.Proofs.YtngbdlkcpkkeoaaW.PrintLast
set_option linter.unusedSimpArgs false

theorem wrap_in (c : Int) (h1 : -9223372036854775808 ≤ c) (h2 : c ≤ 9223372036854775807) : wrap64 c = c := by unfold wrap64; omega
theorem rd_at (l : List Int) (i : Nat) (h : i < l.length) : rd l (i : Int) = l[i] := by
  unfold rd
  rw [Int.toNat_natCast, List.getD_eq_getElem?_getD, List.getElem?_eq_getElem h]; rfl
theorem drop_at {α : Type} (l : List α) (i : Nat) (h : i < l.length) : l.drop i = l[i] :: l.drop (i + 1) := List.drop_eq_getElem_cons h
theorem maxLen_le {n : Nat} (h : n ≤ maxLen) : n ≤ 9223372036854775807 := h
theorem forall_cons {α : Type} {p : α → Prop} [DecidablePred p] (x : α) (l : List α) : decide (∀ y ∈ x :: l, p y) = (decide (p x) && decide (∀ y ∈ l, p y)) := by
  rw [Bool.eq_iff_iff]; simp
theorem nat_add (i : Nat) (h : i + 1 ≤ 9223372036854775807) : wrap64 ((i : Int) + 1) = ((i + 1 : Nat) : Int) := by rw [wrap_in _ (by omega) (by omega)]; omega
abbrev Nd := S60
abbrev Ld := S62
theorem rdN_at (l : List Nd) (i : Nat) (h : i < l.length) : rd_T60 l (i : Int) = l[i] := by
  unfold rd_T60
  rw [Int.toNat_natCast, List.getD_eq_getElem?_getD, List.getElem?_eq_getElem h]; rfl
theorem rdL_at (l : List Ld) (i : Nat) (h : i < l.length) : rd_T62 l (i : Int) = l[i] := by
  unfold rd_T62
  rw [Int.toNat_natCast, List.getD_eq_getElem?_getD, List.getElem?_eq_getElem h]; rfl
/-- How many arguments a node has, -1 for no node. -/
def ar (a b : Int) : Int := if (a = 1 ∧ 0 ≤ b ∧ b ≤ 3) ∨ (a = 2 ∧ 0 ≤ b ∧ b ≤ 9000) then 0 else if (3 ≤ a ∧ a ≤ 6) ∧ b = 0 then 2 else if a = 7 ∧ 0 ≤ b ∧ b ≤ 9000 then 1 else -1
theorem ar_le (a b : Int) : -1 ≤ ar a b ∧ ar a b ≤ 2 := by unfold ar; split <;> (try split) <;> (try split) <;> omega
theorem l1In_some (x a b : Int) : spec_l1In.f x a b = some (decide (a ≤ x ∧ x ≤ b)) := by
  unfold spec_l1In.f
  by_cases h : x ≥ a
  · rw [if_pos h]; simp [show a ≤ x from h]
  · rw [if_neg h]; simp [show ¬ a ≤ x from h]
theorem within_some (x a b : Int) : impl_within.f x a b = some (decide (a ≤ x ∧ x ≤ b)) := l1In_some x a b
theorem arity_some (a b : Int) (k : Nat) (hk : 3 ≤ k) : spec_l5Arity.f k a b = some (ar a b) := by
  obtain ⟨k, rfl⟩ : ∃ m, k = m + 1 + 1 + 1 := ⟨k - 3, by omega⟩
  unfold spec_l5Arity.f ar
  simp only [l1In_some, Option.bind_some, spec_l5Arity.j0, spec_l5Arity.j1, spec_l5Arity.j2]
  by_cases h1 : a = 1
  · subst h1
    by_cases h2 : 0 ≤ b ∧ b ≤ 3 <;> simp [h2]
  · by_cases h2 : a = 2
    · subst h2
      by_cases h3 : 0 ≤ b ∧ b ≤ 9000 <;> simp [h3]
    · by_cases h3 : 3 ≤ a ∧ a ≤ 6
      · have h7 : ¬ a = 7 := by omega
        by_cases h4 : b = 0 <;> simp [h1, h2, h3, h4, h7]
      · by_cases h7 : a = 7
        · subst h7
          by_cases h5 : 0 ≤ b ∧ b ≤ 9000 <;> simp [h5]
        · simp [h1, h2, h3, h7]
theorem arguments_some (a b : Int) : impl_arguments.f a b = some (if 3 ≤ a ∧ a ≤ 6 then 2 else if a = 7 then 1 else 0) := by
  unfold impl_arguments.f
  rw [within_some]
  by_cases h3 : 3 ≤ a ∧ a ≤ 6
  · simp [h3]
  · by_cases h7 : a = 7 <;> simp [h3, h7]
theorem isNode_some (a b : Int) (k : Nat) (hk : 1 ≤ k) : impl_isNode.f k a b = some (decide (0 ≤ ar a b)) := by
  obtain ⟨k, rfl⟩ : ∃ m, k = m + 1 := ⟨k - 1, by omega⟩
  unfold impl_isNode.f ar
  simp only [within_some, Option.bind_some, impl_isNode.j0]
  by_cases h1 : a = 1
  · subst h1
    by_cases h2 : 0 ≤ b ∧ b ≤ 3 <;> simp [h2]
  · by_cases h2 : a = 2
    · subst h2
      by_cases h3 : 0 ≤ b ∧ b ≤ 9000 <;> simp [h3]
    · by_cases h3 : 3 ≤ a ∧ a ≤ 6
      · have h7 : ¬ a = 7 := by omega
        by_cases h4 : b = 0 <;> simp [h1, h2, h3, h4, h7]
      · by_cases h7 : a = 7
        · subst h7
          by_cases h5 : 0 ≤ b ∧ b ≤ 9000 <;> simp [h5]
        · simp [h1, h2, h3, h7]
theorem args_ar (a b : Int) (h : 0 ≤ ar a b) : (if 3 ≤ a ∧ a ≤ 6 then 2 else if a = 7 then 1 else 0 : Int) = ar a b := by
  unfold ar at h ⊢
  by_cases h1 : (a = 1 ∧ 0 ≤ b ∧ b ≤ 3) ∨ (a = 2 ∧ 0 ≤ b ∧ b ≤ 9000)
  · rw [if_pos h1, if_neg (by omega), if_neg (by omega)]
  · rw [if_neg h1] at h ⊢
    by_cases h2 : (3 ≤ a ∧ a ≤ 6) ∧ b = 0
    · rw [if_pos h2, if_pos h2.1]
    · rw [if_neg h2] at h ⊢
      by_cases h3 : a = 7 ∧ 0 ≤ b ∧ b ≤ 9000
      · rw [if_pos h3, if_neg (by omega), if_pos h3.1]
      · rw [if_neg h3] at h; omega
/-- The places that are open behind a list of nodes, or none. -/
def scan : List Nd → Int → Option Int
  | [], o => some o
  | n :: r, o => if ar n.f0 n.f1 < 0 then none else if ar n.f0 n.f1 > o then none else scan r (o - ar n.f0 n.f1 + 1)
/-- Whether a list is an expression. -/
def goodE (l : List Nd) : Bool := decide (l.length ≤ 15) && (scan l 0 == some 1)
theorem l5Good_loop (l : List Nd) (hl : l.length ≤ 15) (d : Nat) : ∀ (k i : Nat) (o : Int), i + d = l.length → d + 3 < k → 0 ≤ o → o ≤ i → spec_l5Good.l0 k l o i = some (scan (l.drop i) o == some 1) := by
  induction d with
  | zero =>
    intro k i o hi hk h0 h1
    obtain ⟨k, rfl⟩ : ∃ m, k = m + 1 := ⟨k - 1, by omega⟩
    simp only [spec_l5Good.l0]
    rw [if_neg (by omega), List.drop_eq_nil_of_le (by omega)]; rfl
  | succ d ih =>
    intro k i o hi hk h0 h1
    obtain ⟨k, rfl⟩ : ∃ m, k = m + 1 := ⟨k - 1, by omega⟩
    simp only [spec_l5Good.l0]
    rw [if_pos (by omega), if_pos (by omega), rdN_at l i (by omega), arity_some _ _ k (by omega), drop_at l i (by omega), Option.bind_some, scan]
    have ha := ar_le l[i].f0 l[i].f1
    by_cases h2 : ar l[i].f0 l[i].f1 < 0
    · rw [if_pos h2, if_pos h2]; rfl
    · rw [if_neg h2, if_neg h2]
      by_cases h3 : ar l[i].f0 l[i].f1 > o
      · rw [if_pos h3, if_pos h3]; rfl
      · rw [if_neg h3, if_neg h3, wrap_in (o - _) (by omega) (by omega), wrap_in (_ + 1) (by omega) (by omega), nat_add i (by omega)]
        exact ih k (i + 1) _ (by omega) (by omega) (by omega) (by omega)
theorem l5Good_some (l : List Nd) (k : Nat) (hk : 20 ≤ k) : spec_l5Good.f k l = some (goodE l) := by
  unfold spec_l5Good.f goodE
  by_cases h : l.length ≤ 15
  · rw [if_neg (by omega), decide_eq_true h, Bool.true_and]
    exact l5Good_loop l h l.length k 0 0 (by omega) (by omega) (by omega) (by omega)
  · rw [if_pos (by omega), decide_eq_false h, Bool.false_and]
theorem isExpr_loop (l : List Nd) (hl : l.length ≤ 15) (d : Nat) : ∀ (k i : Nat) (o : Int), i + d = l.length → d + 3 < k → 0 ≤ o → o ≤ i → impl_IsExpression.l0 k o l (l.length : Int) i = some (scan (l.drop i) o == some 1) := by
  induction d with
  | zero =>
    intro k i o hi hk h0 h1
    obtain ⟨k, rfl⟩ : ∃ m, k = m + 1 := ⟨k - 1, by omega⟩
    simp only [impl_IsExpression.l0]
    rw [if_neg (by omega), List.drop_eq_nil_of_le (by omega)]; rfl
  | succ d ih =>
    intro k i o hi hk h0 h1
    obtain ⟨k, rfl⟩ : ∃ m, k = m + 1 := ⟨k - 1, by omega⟩
    simp only [impl_IsExpression.l0]
    rw [if_pos (by omega), if_pos (by omega), if_pos (by omega), rdN_at l i (by omega), arguments_some, isNode_some _ _ k (by omega), drop_at l i (by omega)]
    simp only [Option.bind_some, scan]
    have ha := ar_le l[i].f0 l[i].f1
    by_cases h2 : ar l[i].f0 l[i].f1 < 0
    · rw [decide_eq_false (by omega), if_neg (by simp), if_pos h2]; rfl
    · rw [decide_eq_true (by omega), if_pos rfl, if_neg h2, args_ar l[i].f0 l[i].f1 (by omega), wrap_in (o - _) (by omega) (by omega)]
      by_cases h3 : ar l[i].f0 l[i].f1 > o
      · rw [if_pos (by omega), if_pos h3]; rfl
      · rw [if_neg (by omega), if_neg h3, wrap_in (_ + 1) (by omega) (by omega), nat_add i (by omega)]
        exact ih k (i + 1) _ (by omega) (by omega) (by omega) (by omega)
theorem isExpr_some (l : List Nd) (k : Nat) (hk : 20 ≤ k) : impl_IsExpression.f k l = some (goodE l) := by
  unfold impl_IsExpression.f goodE
  by_cases h : l.length ≤ 15
  · rw [if_neg (by omega), decide_eq_true h, Bool.true_and]
    exact isExpr_loop l h l.length k 0 0 (by omega) (by omega) (by omega) (by omega)
  · rw [if_pos (by omega), decide_eq_false h, Bool.false_and]
theorem szNode_some (l : List Ld) (hl : l.length ≤ maxLen) (n : Int) (h0 : 0 ≤ n) (h1 : n ≤ 1048576) : laws_szNodeS.f l n = some (if n < l.length then -1 else n - l.length) := by
  have hl' := maxLen_le hl
  unfold laws_szNodeS.f
  rw [wrap_in _ (by omega) (by omega)]
  by_cases h : n < l.length
  · rw [if_pos (by omega), if_pos h]
  · rw [if_neg (by omega), if_neg h]
/-- The nodes as the program has them. -/
def toN (l : List Ld) : List Nd := l.map fun x => ⟨x.f0, x.f1⟩
theorem toN_len (l : List Ld) : (toN l).length = l.length := by unfold toN; simp
theorem toNode_loop (l : List Ld) (hl : l.length ≤ maxLen) (d : Nat) : ∀ (k i : Nat) (o : List Nd), i + d = l.length → d < k → o.length = l.length → o.take i = (toN l).take i → laws_toNodeS.l0 k l o i = some (toN l) := by
  have hl' := maxLen_le hl
  have hn := toN_len l
  induction d with
  | zero =>
    intro k i o hi hk ho ht
    obtain ⟨k, rfl⟩ : ∃ m, k = m + 1 := ⟨k - 1, by omega⟩
    simp only [laws_toNodeS.l0]
    rw [if_neg (by omega), ← List.take_of_length_le (l := o) (i := i) (by omega), ht, List.take_of_length_le (by omega)]
  | succ d ih =>
    intro k i o hi hk ho ht
    obtain ⟨k, rfl⟩ : ∃ m, k = m + 1 := ⟨k - 1, by omega⟩
    simp only [laws_toNodeS.l0, laws_toNode.f, Option.bind_some]
    rw [if_pos (by omega), if_pos (by omega), if_pos (by omega), rdL_at l i (by omega), nat_add i (by omega), Int.toNat_natCast]
    refine ih k (i + 1) _ (by omega) (by omega) (by simpa using ho) ?_
    rw [List.take_succ_eq_append_getElem (by simpa [ho] using (by omega : i < l.length)), List.take_succ_eq_append_getElem (by omega), List.take_set_of_le (by omega), ht]
    simp [toN]
theorem toNode_some (l : List Ld) (hl : l.length ≤ 1048576) (k : Nat) (hk : l.length + 2 ≤ k) : laws_toNodeS.f k l = some (toN l) := by
  unfold laws_toNodeS.f
  rw [if_pos (by omega), if_pos (by omega)]
  exact toNode_loop l (by unfold maxLen; omega) l.length k 0 _ (by omega) (by omega) (by simp) rfl
theorem eqNode_loop (l : List Nd) (hl : l.length ≤ maxLen) (d : Nat) : ∀ (k i : Nat), i + d = l.length → d < k → laws_eqNodeS.l0 k l l i = some true := by
  have hl' := maxLen_le hl
  induction d with
  | zero =>
    intro k i hi hk
    obtain ⟨k, rfl⟩ : ∃ m, k = m + 1 := ⟨k - 1, by omega⟩
    simp only [laws_eqNodeS.l0]
    rw [if_neg (by omega)]
  | succ d ih =>
    intro k i hi hk
    obtain ⟨k, rfl⟩ : ∃ m, k = m + 1 := ⟨k - 1, by omega⟩
    simp only [laws_eqNodeS.l0, laws_eqNode.f, if_true, Option.bind_some]
    rw [if_pos (by omega), if_pos (by omega), if_pos (by omega), nat_add i (by omega), ih k (i + 1) (by omega) (by omega)]
theorem eqNode_same (l : List Nd) (hl : l.length ≤ maxLen) (k : Nat) (hk : l.length + 2 ≤ k) : laws_eqNodeS.f k l l = some true := by
  unfold laws_eqNodeS.f
  rw [if_pos rfl]
  exact eqNode_loop l hl l.length k 0 (by omega) (by omega)
/-- The marks that the law writes. -/
def marks : Nat → Int → List Nd
  | 0, _ => []
  | n + 1, m => ⟨m, m + 1⟩ :: marks n (m + 2)
theorem marks_len (n : Nat) : ∀ m, (marks n m).length = n := by
  induction n with
  | zero => intro m; rfl
  | succ n ih => intro m; simp [marks, ih]
theorem markNode_loop (d : Nat) : ∀ (k i : Nat) (l : List Nd) (m : Int), i + d = l.length → d < k → l.length ≤ 1000000000 → 0 ≤ m → m ≤ 1000000000000000 - 2 * d → laws_markNodeS.l0 k l m i = some (m + 2 * d, l.take i ++ marks d m) := by
  induction d with
  | zero =>
    intro k i l m hi hk hl h0 h1
    obtain ⟨k, rfl⟩ : ∃ m, k = m + 1 := ⟨k - 1, by omega⟩
    simp only [laws_markNodeS.l0]
    rw [if_neg (by omega), List.take_of_length_le (by omega)]
    simp [marks]
  | succ d ih =>
    intro k i l m hi hk hl h0 h1
    obtain ⟨k, rfl⟩ : ∃ m, k = m + 1 := ⟨k - 1, by omega⟩
    simp only [laws_markNodeS.l0]
    rw [if_pos (by omega), if_pos (by omega)]
    simp only [Option.bind_some, Int.toNat_natCast]
    rw [rdN_at l i (by omega), rdN_at (l.set i _) i (by rw [List.length_set]; omega), List.getElem_set_self, wrap_in (m + 1) (by omega) (by omega), wrap_in (m + 1 + 1) (by omega) (by omega), nat_add i (by omega), ih k (i + 1) _ _ (by rw [List.length_set, List.length_set]; omega) (by omega) (by rw [List.length_set, List.length_set]; omega) (by omega) (by omega)]
    congr 1
    refine Prod.ext (by show _ + _ = _ + _; omega) ?_
    show _ ++ _ = _ ++ _
    rw [List.take_succ_eq_append_getElem (by rw [List.length_set, List.length_set]; omega), marks, show m + 1 + 1 = m + 2 by omega]
    simp [List.take_set_of_le]
theorem heldNode_loop (d : Nat) : ∀ (k i : Nat) (l : List Nd) (m : Int), i + d = l.length → d < k → l.length ≤ 1000000000 → 0 ≤ m → m ≤ 1000000000000000 - 2 * d → l.drop i = marks d m → laws_heldNodeS.l0 k l m i = some (m + 2 * d) := by
  induction d with
  | zero =>
    intro k i l m hi hk hl h0 h1 he
    obtain ⟨k, rfl⟩ : ∃ m, k = m + 1 := ⟨k - 1, by omega⟩
    simp only [laws_heldNodeS.l0]
    rw [if_neg (by omega)]
    simp
  | succ d ih =>
    intro k i l m hi hk hl h0 h1 he
    obtain ⟨k, rfl⟩ : ∃ m, k = m + 1 := ⟨k - 1, by omega⟩
    rw [drop_at l i (by omega), marks] at he
    injection he with he1 he2
    simp only [laws_heldNodeS.l0]
    rw [if_pos (by omega), if_pos (by omega), rdN_at _ i (by omega), he1]
    rw [if_pos rfl, wrap_in (m + 1) (by omega) (by omega), if_pos rfl, wrap_in (m + 1 + 1) (by omega) (by omega), nat_add i (by omega), show m + 1 + 1 = m + 2 by omega, ih k (i + 1) _ _ (by omega) (by omega) hl (by omega) (by omega) he2]
    congr 1; omega
theorem markNode_some (l : List Nd) (hl : l.length ≤ 1000000000) (m : Int) (h0 : 0 ≤ m) (h1 : m ≤ 100000000000) (k : Nat) (hk : l.length < k) : laws_markNodeS.f k l m = some (m + 2 * l.length, marks l.length m) := by
  unfold laws_markNodeS.f
  have := markNode_loop l.length k 0 l m (by omega) hk hl h0 (by omega)
  simpa using this
theorem heldNode_some (n : Nat) (hn : n ≤ 1000000000) (m : Int) (h0 : 0 ≤ m) (h1 : m ≤ 100000000000) (k : Nat) (hk : n < k) : laws_heldNodeS.f k (marks n m) m = some (m + 2 * n) := by
  unfold laws_heldNodeS.f
  have hm := marks_len n m
  exact heldNode_loop n k 0 (marks n m) m (by omega) hk (by omega) h0 (by omega) rfl
theorem scan_append (l r : List Nd) : ∀ o, scan (l ++ r) o = (scan l o).bind (scan r) := by
  induction l with
  | nil => intro o; rfl
  | cons n l ih =>
    intro o
    simp only [List.cons_append, scan]
    split
    · rfl
    · split
      · rfl
      · exact ih _
theorem scan_shift (l : List Nd) : ∀ o p c : Int, 0 ≤ c → scan l o = some p → scan l (o + c) = some (p + c) := by
  induction l with
  | nil => intro o p c _ h; simp only [scan] at h ⊢; rw [Option.some.inj h]
  | cons n l ih =>
    intro o p c hc h
    simp only [scan] at h ⊢
    by_cases h1 : ar n.f0 n.f1 < 0
    · rw [if_pos h1] at h; cases h
    · rw [if_neg h1] at h ⊢
      by_cases h2 : ar n.f0 n.f1 > o
      · rw [if_pos h2] at h; cases h
      · rw [if_neg h2] at h
        rw [if_neg (by omega), show o + c - ar n.f0 n.f1 + 1 = o - ar n.f0 n.f1 + 1 + c by omega]
        exact ih _ _ _ hc h
/-- The list with the field replaced. -/
def repl (f : Int) (by_ : List Nd) : List Nd → List Nd
  | [] => []
  | n :: r => if n.f0 = 1 ∧ n.f1 = f then by_ ++ repl f by_ r else n :: repl f by_ r
theorem repl_scan (f : Int) (b : List Nd) (hb : scan b 0 = some 1) (l : List Nd) : ∀ o p : Int, 0 ≤ o → scan l o = some p → scan (repl f b l) o = some p := by
  induction l with
  | nil => intro o p _ h; exact h
  | cons n l ih =>
    intro o p ho h
    simp only [repl]
    by_cases hn : n.f0 = 1 ∧ n.f1 = f
    · rw [if_pos hn, scan_append]
      have hs := scan_shift b 0 1 o ho hb
      rw [show (0 : Int) + o = o by omega] at hs
      rw [hs, Option.bind_some]
      simp only [scan] at h
      by_cases h1 : ar n.f0 n.f1 < 0
      · rw [if_pos h1] at h; cases h
      · rw [if_neg h1] at h
        by_cases h2 : ar n.f0 n.f1 > o
        · rw [if_pos h2] at h; cases h
        · rw [if_neg h2] at h
          have h3 : ar n.f0 n.f1 = 0 := by
            rw [hn.1] at h1 ⊢
            unfold ar at h1 ⊢
            by_cases c : 0 ≤ n.f1 ∧ n.f1 ≤ 3
            · simp [c]
            · simp [c] at h1
          rw [h3] at h
          rw [show (1 : Int) + o = o - 0 + 1 by omega]
          exact ih _ _ (by omega) h
    · rw [if_neg hn]
      simp only [scan] at h ⊢
      by_cases h1 : ar n.f0 n.f1 < 0
      · rw [if_pos h1] at h; cases h
      · rw [if_neg h1] at h ⊢
        by_cases h2 : ar n.f0 n.f1 > o
        · rw [if_pos h2] at h; cases h
        · rw [if_neg h2] at h ⊢
          exact ih _ _ (by omega) h
theorem repl_len (f : Int) (b : List Nd) (hb : b.length ≤ 15) (l : List Nd) : (repl f b l).length ≤ 15 * l.length := by
  induction l with
  | nil => simp [repl]
  | cons n l ih =>
    simp only [repl]
    split
    · simp only [List.length_append, List.length_cons]; omega
    · simp only [List.length_cons]; omega

theorem repl_loops (f : Int) (b : List Nd) (hb : b.length ≤ 15) (l : List Nd) (hl : l.length ≤ 15) (d : Nat) : ∀ (k i : Nat) (o : List Nd), i + d = l.length → d + 22 ≤ k → o.length ≤ 15 * i →
    spec_ReplaceField.l0 k l f b o i = some (if goodE (o ++ repl f b (l.drop i)) then (o ++ repl f b (l.drop i), true) else ([], false)) ∧
    impl_ReplaceField.l0 k f b o l (l.length : Int) i = some (if (o ++ repl f b (l.drop i)).length ≤ 15 then (o ++ repl f b (l.drop i), true) else ([], false)) := by
  induction d with
  | zero =>
    intro k i o hi hk ho
    obtain ⟨k, rfl⟩ : ∃ m, k = m + 1 := ⟨k - 1, by omega⟩
    simp only [spec_ReplaceField.l0, impl_ReplaceField.l0]
    have e1 : ¬ (i : Int) < (l.length : Int) := by omega
    simp only [e1, if_false]
    rw [List.drop_eq_nil_of_le (by omega), l5Good_some _ _ (by omega)]
    simp only [repl, List.append_nil, Option.bind_some]
    refine ⟨?_, ?_⟩
    · cases goodE o <;> rfl
    · by_cases h : o.length ≤ 15
      · rw [if_neg (by omega), if_pos h]
      · rw [if_pos (by omega), if_neg h]
  | succ d ih =>
    intro k i o hi hk ho
    obtain ⟨k, rfl⟩ : ∃ m, k = m + 1 := ⟨k - 1, by omega⟩
    simp only [spec_ReplaceField.l0, impl_ReplaceField.l0]
    have e1 : (i : Int) < (l.length : Int) := by omega
    have e2 : (0 : Int) ≤ i := by omega
    have e3 : o.length + b.length < 8796093022208 := by omega
    have e4 : o.length < 8796093022208 := by omega
    simp only [e1, e2, e3, e4, if_true]
    rw [rdN_at l i (by omega), nat_add i (by omega), drop_at l i (by omega)]
    generalize l[i] = n
    obtain ⟨x, y⟩ := n
    simp only [repl]
    by_cases h1 : x = 1 ∧ y = f
    · have h2 : (x == 1 && y == f) = true := by simpa using h1
      have := ih k (i + 1) (o ++ b) (by omega) (by omega) (by simp only [List.length_append]; omega)
      simpa only [h1.1, h1.2, h2, if_true, and_self, beq_self_eq_true, Bool.and_self, List.append_assoc] using this
    · have h2 : (x == 1 && y == f) = false := by
        rw [Bool.eq_false_iff]; intro z; exact h1 (by simpa using z)
      have := ih k (i + 1) (o ++ [⟨x, y⟩]) (by omega) (by omega) (by simp only [List.length_append, List.length_singleton]; omega)
      have h3 : (if x = 1 then (if y = f then spec_ReplaceField.l0 k l f b (o ++ b) ((i + 1 : Nat) : Int) else spec_ReplaceField.l0 k l f b (o ++ [⟨x, y⟩]) ((i + 1 : Nat) : Int)) else spec_ReplaceField.l0 k l f b (o ++ [⟨x, y⟩]) ((i + 1 : Nat) : Int)) = spec_ReplaceField.l0 k l f b (o ++ [⟨x, y⟩]) ((i + 1 : Nat) : Int) := by
        by_cases c : x = 1
        · rw [if_pos c, if_neg (fun z => h1 ⟨c, z⟩)]
        · rw [if_neg c]
      rw [h3, h2]
      simpa only [h1, if_false, Bool.false_eq_true, List.append_assoc, List.singleton_append] using this

theorem both_same (l : List Nd) (f : Int) (b : List Nd) (k : Nat) (hk : 60 ≤ k) : ∃ r z, spec_ReplaceField.f k l f b = some (r, z) ∧ impl_ReplaceField.f k l f b = some (r, z) ∧ r.length ≤ 15 := by
  obtain ⟨k, rfl⟩ : ∃ m, k = m + 1 := ⟨k - 1, by omega⟩
  unfold spec_ReplaceField.f impl_ReplaceField.f
  rw [l5Good_some _ _ (by omega), l5Good_some _ _ (by omega), isExpr_some _ _ (by omega), isExpr_some _ _ (by omega), l1In_some, within_some]
  simp only [Option.bind_some, spec_ReplaceField.j0, impl_ReplaceField.j0, if_true]
  cases hl : goodE l with
  | false =>
    exact ⟨[], false, by simp, by simp, by simp⟩
  | true =>
    cases hb : goodE b with
    | false => by_cases hf : 0 ≤ f ∧ f ≤ 3 <;> exact ⟨[], false, by simp [hf], by simp [hf], by simp⟩
    | true =>
      by_cases hf : 0 ≤ f ∧ f ≤ 3
      · have gl := hl
        have gb := hb
        unfold goodE at gl gb
        rw [Bool.and_eq_true, decide_eq_true_eq, beq_iff_eq] at gl gb
        obtain ⟨h1, h2⟩ := repl_loops f b gb.1 l gl.1 l.length k 0 [] (by omega) (by omega) (by simp)
        rw [show ((0 : Nat) : Int) = 0 from rfl] at h1 h2
        simp only [List.nil_append, List.drop_zero] at h1 h2
        have hs := repl_scan f b gb.2 l 0 1 (by omega) gl.2
        have hg : goodE (repl f b l) = decide ((repl f b l).length ≤ 15) := by unfold goodE; rw [hs]; simp
        rw [hg] at h1
        rw [h1, h2]
        by_cases h15 : (repl f b l).length ≤ 15
        · exact ⟨repl f b l, true, by simp [hf, h15], by simp [hf, h15], h15⟩
        · exact ⟨[], false, by simp [hf, h15], by simp [hf, h15], by simp⟩
      · exact ⟨[], false, by simp [hf], by simp [hf], by simp⟩

theorem FnExactReplaceField : laws_FnExactReplaceField.Pure := by
  intro l f b hw _ hw2
  have hl := hw.1
  have hb := hw2.1
  refine ⟨l.length + b.length + 80, ?_⟩
  unfold laws_FnExactReplaceField.f
  rw [szNode_some l hl _ (by omega) (by omega), Option.bind_some]
  by_cases hs : (1048576 : Int) < l.length
  · rw [if_pos hs, if_pos (by omega)]
  · rw [if_neg hs, if_neg (by omega), szNode_some b hb _ (by omega) (by omega), Option.bind_some]
    by_cases hs2 : (1048576 : Int) - l.length < b.length
    · rw [if_pos hs2, if_pos (by omega)]
    · have hn := toN_len l
      have hm := toN_len b
      have tl : ∀ k, l.length + b.length + 70 ≤ k → laws_toNodeS.f k l = some (toN l) := fun k hk => toNode_some l (by omega) k (by omega)
      have tb : ∀ k, l.length + b.length + 70 ≤ k → laws_toNodeS.f k b = some (toN b) := fun k hk => toNode_some b (by omega) k (by omega)
      have el : ∀ k, l.length + b.length + 70 ≤ k → laws_eqNodeS.f k (toN l) (toN l) = some true := fun k hk => eqNode_same _ (by unfold maxLen; omega) k (by omega)
      have eb : ∀ k, l.length + b.length + 70 ≤ k → laws_eqNodeS.f k (toN b) (toN b) = some true := fun k hk => eqNode_same _ (by unfold maxLen; omega) k (by omega)
      obtain ⟨r, z, h1, h2, hr⟩ := both_same (toN l) f (toN b) (l.length + b.length + 80) (by omega)
      obtain ⟨r', z', h1', h2', _⟩ := both_same (toN l) f (toN b) (l.length + b.length + 78) (by omega)
      have h3 := at_rounds (g := fun k => spec_ReplaceField.f k (toN l) f (toN b)) (fun k => spec_ReplaceField.mono _ _ _ k) (show l.length + b.length + 78 ≤ l.length + b.length + 80 by omega) h1'
      have h4 : (r', z') = (r, z) := Option.some.inj (h3.symm.trans h1)
      have er : ∀ k, l.length + b.length + 70 ≤ k → laws_eqNodeS.f k r r = some true := fun k hk => eqNode_same _ (by unfold maxLen; omega) k (by omega)
      rw [if_neg hs2, if_neg (by omega), tl _ (by omega), tb _ (by omega)]
      simp only [Option.bind_some, h1, h2, if_true, bne_self_eq_false, laws_FnExactReplaceField.j0, er _ (show l.length + b.length + 70 ≤ l.length + b.length + 80 by omega)]
      rw [if_neg (by simp), tl _ (by omega), Option.bind_some, el _ (by omega)]
      simp only [Option.bind_some, if_true]
      rw [tb _ (by omega), Option.bind_some, eb _ (by omega)]
      simp only [Option.bind_some, if_true]
      rw [markNode_some (toN l) (by omega) 1 (by omega) (by omega) _ (by omega), Option.bind_some]
      simp only []
      rw [markNode_some (toN b) (by omega) _ (by omega) (by omega) _ (by omega), Option.bind_some]
      simp only []
      rw [if_neg (by omega), er _ (by omega)]
      simp only [Option.bind_some, if_true, laws_FnExactReplaceField.j1]
      rw [if_neg (by simp), markNode_some r (by omega) 1 (by omega) (by omega) _ (by omega), Option.bind_some]
      simp only []
      rw [heldNode_some r.length (by omega) 1 (by omega) (by omega) _ (by omega), Option.bind_some, if_neg (by omega), if_pos rfl, tl _ (by omega), Option.bind_some, tb _ (by omega), Option.bind_some, h2', Option.bind_some]
      rw [h4]
      simp only []
      rw [er _ (by omega)]
      simp only [Option.bind_some, if_true, bne_self_eq_false, laws_FnExactReplaceField.j2]
      rw [if_neg (by simp), heldNode_some r.length (by omega) 1 (by omega) (by omega) _ (by omega), Option.bind_some, if_neg (by omega), if_pos rfl]

end Go.Proofs.Ytngbdlkcpkkeoaa.Pure
