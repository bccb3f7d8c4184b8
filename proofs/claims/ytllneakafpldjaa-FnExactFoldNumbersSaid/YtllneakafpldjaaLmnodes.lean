/- A deterministic reading of Go code over plain data: what functions of the program compute. No conditions. -/
import Derived.Test.YtllneakafpldjaaLmbase
import Derived.Test.YtllneakafpldjaaEngT
namespace Go.Proofs.Ytllneakafpldjaa.Eng
open Go Go.Proofs
set_option maxRecDepth 100000
set_option maxHeartbeats 2000000
set_option linter.unusedSimpArgs false
set_option linter.unusedVariables false
/-- Nodes: kind and value; how many arguments a node takes, -1: it is no node. -/
def arI (q : Int × Int) : Int := if (q.1 = 1 ∧ (0 ≤ q.2 ∧ q.2 ≤ 3)) ∨ (q.1 = 2 ∧ (0 ≤ q.2 ∧ q.2 ≤ 9000)) then 0 else if (3 ≤ q.1 ∧ q.1 ≤ 6) ∧ q.2 = 0 then 2 else if q.1 = 7 ∧ (0 ≤ q.2 ∧ q.2 ≤ 9000) then 1 else -1
theorem ar_cases (q : Int × Int) : arI q = 0 ∨ arI q = 1 ∨ arI q = 2 ∨ arI q = -1 := by
  unfold arI
  split
  · exact .inl rfl
  split
  · exact .inr (.inr (.inl rfl))
  split
  · exact .inr (.inl rfl)
  · exact .inr (.inr (.inr rfl))
/-- How many expressions lie on the stack behind i nodes; -1: it fell. -/
def runO (l : List (Int × Int)) : Nat → Int
  | 0 => 0
  | i + 1 => if runO l i < 0 ∨ arI (l.getD i (0, 0)) < 0 ∨ runO l i < arI (l.getD i (0, 0)) then -1 else runO l i - arI (l.getD i (0, 0)) + 1
theorem runO_succ (l : List (Int × Int)) (i : Nat) : runO l (i + 1) = if runO l i < 0 ∨ arI (l.getD i (0, 0)) < 0 ∨ runO l i < arI (l.getD i (0, 0)) then -1 else runO l i - arI (l.getD i (0, 0)) + 1 := rfl
def goodE (l : List (Int × Int)) : Bool := decide (l.length ≤ 15) && decide (runO l l.length = 1)
theorem runO_ge (l : List (Int × Int)) (i : Nat) : -1 ≤ runO l i := by
  induction i with
  | zero => simp [runO]
  | succ i ih =>
    rw [runO_succ]
    split
    · omega
    · rcases ar_cases (l.getD i (0, 0)) with h | h | h | h <;> omega
theorem runO_le (l : List (Int × Int)) (i : Nat) : runO l i ≤ i := by
  induction i with
  | zero => simp [runO]
  | succ i ih =>
    rw [runO_succ]
    split
    · omega
    · rcases ar_cases (l.getD i (0, 0)) with h | h | h | h <;> omega
theorem runO_back {l : List (Int × Int)} {i : Nat} (h : 0 ≤ runO l (i + 1)) : 0 ≤ runO l i ∧ 0 ≤ arI (l.getD i (0, 0)) ∧ arI (l.getD i (0, 0)) ≤ runO l i ∧ runO l (i + 1) = runO l i - arI (l.getD i (0, 0)) + 1 := by
  rw [runO_succ] at h ⊢
  split at h
  · omega
  · rename_i hn
    rw [if_neg hn]
    omega
theorem runO_mono {l : List (Int × Int)} {n : Nat} (h : 0 ≤ runO l n) : ∀ d i, i + d = n → 0 ≤ runO l i
  | 0, i, e => by obtain rfl : i = n := by omega
                  exact h
  | d + 1, i, e => (runO_back (runO_mono h d (i + 1) (by omega))).1
theorem runO_pos {l : List (Int × Int)} {i : Nat} (h : 0 ≤ runO l (i + 1)) : 1 ≤ runO l (i + 1) := by
  have := runO_back h
  omega
/-- The stack behind i nodes, the last one ahead: where each expression begins, how deep it is. -/
def stk (l : List (Int × Int)) : Nat → List (Nat × Int)
  | 0 => []
  | i + 1 => if arI (l.getD i (0, 0)) = 0 then (i, 1) :: stk l i else if arI (l.getD i (0, 0)) = 1 then (match stk l i with
    | (a, d) :: s => (a, d + 1) :: s
    | [] => []) else (match stk l i with
    | (_, d2) :: (a, d1) :: s => (a, (if d1 > d2 then d1 else d2) + 1) :: s
    | s => s)
theorem stk_0 {l : List (Int × Int)} {i : Nat} (h : arI (l.getD i (0, 0)) = 0) : stk l (i + 1) = (i, 1) :: stk l i := by rw [stk, if_pos h]
theorem stk_1 {l : List (Int × Int)} {i : Nat} {a : Nat} {d : Int} {s : List (Nat × Int)} (h : arI (l.getD i (0, 0)) = 1) (hs : stk l i = (a, d) :: s) : stk l (i + 1) = (a, d + 1) :: s := by rw [stk, if_neg (by omega), if_pos h, hs]
theorem stk_2 {l : List (Int × Int)} {i : Nat} {a a2 : Nat} {d1 d2 : Int} {s : List (Nat × Int)} (h : arI (l.getD i (0, 0)) = 2) (hs : stk l i = (a2, d2) :: (a, d1) :: s) : stk l (i + 1) = (a, (if d1 > d2 then d1 else d2) + 1) :: s := by rw [stk, if_neg (by omega), if_neg (by omega), hs]
theorem stk_len {l : List (Int × Int)} : ∀ i, 0 ≤ runO l i → ((stk l i).length : Int) = runO l i
  | 0, _ => by simp [stk, runO]
  | i + 1, h => by
    obtain ⟨h1, h2, h3, h4⟩ := runO_back h
    have ih := stk_len i h1
    rw [h4]
    rcases ar_cases (l.getD i (0, 0)) with e | e | e | e
    · rw [stk_0 e, e]; simp only [List.length_cons]; omega
    · cases hs : stk l i with
      | nil => rw [hs] at ih; simp only [List.length_nil] at ih; omega
      | cons x s => obtain ⟨a, d⟩ := x; rw [stk_1 e hs, e]; rw [hs] at ih; simp only [List.length_cons] at ih ⊢; omega
    · cases hs : stk l i with
      | nil => rw [hs] at ih; simp only [List.length_nil] at ih; omega
      | cons x s =>
        cases s with
        | nil => rw [hs] at ih; simp only [List.length_cons, List.length_nil] at ih; omega
        | cons y s => obtain ⟨a2, d2⟩ := x; obtain ⟨a, d1⟩ := y; rw [stk_2 e hs, e]; rw [hs] at ih; simp only [List.length_cons] at ih ⊢; omega
    · omega
/-- Behind a node: an expression that begins at some place, on what lay there then. -/
theorem stk_top {l : List (Int × Int)} : ∀ i, 0 ≤ runO l (i + 1) → ∃ a d, a ≤ i ∧ stk l (i + 1) = (a, d) :: stk l a := by
  intro i
  induction i using Nat.strongRecOn with
  | _ i ih =>
    intro h
    obtain ⟨h1, h2, h3, h4⟩ := runO_back h
    rcases ar_cases (l.getD i (0, 0)) with e | e | e | e
    · exact ⟨i, 1, Nat.le_refl _, stk_0 e⟩
    · obtain ⟨j, rfl⟩ : ∃ j, i = j + 1 := by
        cases i with
        | zero => rw [e] at h3; exact absurd h3 (by simp [runO])
        | succ j => exact ⟨j, rfl⟩
      obtain ⟨a, d, ha, hs⟩ := ih j (by omega) h1
      exact ⟨a, d + 1, by omega, stk_1 e hs⟩
    · obtain ⟨j, rfl⟩ : ∃ j, i = j + 1 := by
        cases i with
        | zero => rw [e] at h3; exact absurd h3 (by simp [runO])
        | succ j => exact ⟨j, rfl⟩
      obtain ⟨a, d, ha, hs⟩ := ih j (by omega) h1
      have hl := stk_len (j + 1) h1
      have ha0 : 0 ≤ runO l a := runO_mono h1 (j + 1 - a) a (by omega)
      have hla := stk_len a ha0
      rw [hs] at hl
      simp only [List.length_cons] at hl
      obtain ⟨b, rfl⟩ : ∃ b, a = b + 1 := by
        cases a with
        | zero => simp only [stk, List.length_nil] at hl; omega
        | succ b => exact ⟨b, rfl⟩
      obtain ⟨c, d', hc, hs'⟩ := ih b (by omega) ha0
      exact ⟨c, (if d' > d then d' else d) + 1, by omega, stk_2 e (by rw [hs, hs'])⟩
    · omega

end Go.Proofs.Ytllneakafpldjaa.Eng
